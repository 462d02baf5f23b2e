/- What functions of the program come to. -/
import Derived.Test.YtddhebliggkadaaGreatPcT
import Derived.Test.YtddhebliggkadaaGreatEvCmp
import Derived.Test.YtddhebliggkadaaGreatEvGrow
import Derived.Test.YtddhebliggkadaaGreatEvSort
import Derived.Test.YtddhebliggkadaaGreatPcL
namespace Go.Ev.W
open Go.Ev Go.Proofs
set_option maxRecDepth 100000
set_option linter.unusedVariables false

/-! ### spec_TextOk: loop.example/g00688/spec.TextOk -/
def spec_TextOk.ms : List Mode := [.lend]
def spec_TextOk.as : List VSh := [.one (.b (.b (.b (.b (.sl false false 5)))))]
def spec_TextOk.rs : RSh := ⟨[.one (.b (.b (.b (.b (.bool)))))], [none]⟩
noncomputable def spec_TextOk.gs (δ : Type) : List (Nat × Callee (GT tab) δ) := []
theorem spec_TextOk.gok (δ : Type) : AllCon Tryz.prog tab (spec_TextOk.gs δ) := .nil
noncomputable def spec_TextOk.c : Ctx (GT tab) (KT tab) (ResT tab spec_TextOk.rs) := { X := XT tab, ty := tyOf tys, inner := fun _ => true, keep := keepOf 0 spec_TextOk.ms, cuts := [], live := liveOf [], G := getG (spec_TextOk.gs _) }
noncomputable def spec_TextOk.b : Code := bodyOf Tryz.f130
noncomputable def spec_TextOk (x0 : List Int) : Option (Bool) := callW spec_TextOk.c (fiOf (GT tab) Tryz.f130 spec_TextOk.ms) spec_TextOk.b (decRes tab spec_TextOk.rs) (encArgs tab spec_TextOk.as x0)
theorem spec_TextOk.fok : FnOk Tryz.prog 130 Tryz.f130 spec_TextOk.ms spec_TextOk.b := ⟨Tryz.func130, by kernel_rfl, by kernel_rfl⟩
noncomputable def spec_TextOk.fn : Args tab spec_TextOk.as → Option (ResT tab spec_TextOk.rs) := fun x => spec_TextOk x
theorem spec_TextOk.con {δ : Type} : Con Tryz.prog (KT tab) 130 (calleeS (β := δ) tab spec_TextOk.ms spec_TextOk.as spec_TextOk.rs spec_TextOk.fn) := con_shape (c := spec_TextOk.c) mixed tysOk (getG_con (spec_TextOk.gok _)) spec_TextOk.fok rfl rfl (fun _ => rfl)
theorem spec_TextOk.eq (x0 : List Int) : spec_TextOk x0 =
    some (decide ((x0.length : Int) ≤ (300 : Int))) := by kernel_rfl

/-! ### spec_l09Rate: loop.example/g00688/spec.l09Rate -/
def spec_l09Rate.ms : List Mode := [.lend]
def spec_l09Rate.as : List VSh := [.one (.b (.b (.b (.b (.int .i64)))))]
def spec_l09Rate.rs : RSh := ⟨[.one (.b (.b (.b (.b (.bool)))))], [none]⟩
noncomputable def spec_l09Rate.gs (δ : Type) : List (Nat × Callee (GT tab) δ) := []
theorem spec_l09Rate.gok (δ : Type) : AllCon Tryz.prog tab (spec_l09Rate.gs δ) := .nil
noncomputable def spec_l09Rate.c : Ctx (GT tab) (KT tab) (ResT tab spec_l09Rate.rs) := { X := XT tab, ty := tyOf tys, inner := fun _ => true, keep := keepOf 0 spec_l09Rate.ms, cuts := [], live := liveOf [], G := getG (spec_l09Rate.gs _) }
noncomputable def spec_l09Rate.b : Code := bodyOf Tryz.f124
noncomputable def spec_l09Rate (x0 : Int) : Option (Bool) := callW spec_l09Rate.c (fiOf (GT tab) Tryz.f124 spec_l09Rate.ms) spec_l09Rate.b (decRes tab spec_l09Rate.rs) (encArgs tab spec_l09Rate.as x0)
theorem spec_l09Rate.fok : FnOk Tryz.prog 124 Tryz.f124 spec_l09Rate.ms spec_l09Rate.b := ⟨Tryz.func124, by kernel_rfl, by kernel_rfl⟩
noncomputable def spec_l09Rate.fn : Args tab spec_l09Rate.as → Option (ResT tab spec_l09Rate.rs) := fun x => spec_l09Rate x
theorem spec_l09Rate.con {δ : Type} : Con Tryz.prog (KT tab) 124 (calleeS (β := δ) tab spec_l09Rate.ms spec_l09Rate.as spec_l09Rate.rs spec_l09Rate.fn) := con_shape (c := spec_l09Rate.c) mixed tysOk (getG_con (spec_l09Rate.gok _)) spec_l09Rate.fok rfl rfl (fun _ => rfl)
theorem spec_l09Rate.eq (x0 : Int) : spec_l09Rate x0 =
    bif decide (x0 ≥ (1 : Int)) then
      some (decide (x0 ≤ (64 : Int)))
    else
      some false := by kernel_rfl

/-! ### spec_l05Cmp: loop.example/g00688/spec.l05Cmp -/
def spec_l05Cmp.ms : List Mode := [.lend, .lend]
def spec_l05Cmp.as : List VSh := [.one (.b (.b (.b (.b (.sl false false 5))))), .one (.b (.b (.b (.b (.sl false false 5)))))]
def spec_l05Cmp.rs : RSh := ⟨[.one (.b (.b (.b (.b (.int .i64)))))], [none, none]⟩
noncomputable def spec_l05Cmp.gs (δ : Type) : List (Nat × Callee (GT tab) δ) := []
theorem spec_l05Cmp.gok (δ : Type) : AllCon Tryz.prog tab (spec_l05Cmp.gs δ) := .nil
noncomputable def spec_l05Cmp.c : Ctx (GT tab) (KT tab) (ResT tab spec_l05Cmp.rs) := { X := XT tab, ty := tyOf tys, inner := fun _ => true, keep := keepOf 0 spec_l05Cmp.ms, cuts := [4], live := liveOf [(2, [0, 1, 5]), (4, [0, 1, 5])], G := getG (spec_l05Cmp.gs _) }
noncomputable def spec_l05Cmp.b : Code := bodyOf Tryz.f131
noncomputable def spec_l05Cmp (x0 : List Int) (x1 : List Int) : Option (Int) := callW spec_l05Cmp.c (fiOf (GT tab) Tryz.f131 spec_l05Cmp.ms) spec_l05Cmp.b (decRes tab spec_l05Cmp.rs) (encArgs tab spec_l05Cmp.as (x0, x1))
theorem spec_l05Cmp.fok : FnOk Tryz.prog 131 Tryz.f131 spec_l05Cmp.ms spec_l05Cmp.b := ⟨Tryz.func131, by kernel_rfl, by kernel_rfl⟩
noncomputable def spec_l05Cmp.fn : Args tab spec_l05Cmp.as → Option (ResT tab spec_l05Cmp.rs) := fun x => spec_l05Cmp x.1 x.2
theorem spec_l05Cmp.con {δ : Type} : Con Tryz.prog (KT tab) 131 (calleeS (β := δ) tab spec_l05Cmp.ms spec_l05Cmp.as spec_l05Cmp.rs spec_l05Cmp.fn) := con_shape (c := spec_l05Cmp.c) mixed tysOk (getG_con (spec_l05Cmp.gok _)) spec_l05Cmp.fok rfl rfl (fun _ => rfl)
noncomputable def spec_l05Cmp_l0 (v0 : List Int) (v1 : List Int) (v2 : Int) : Option (Int) := Lw spec_l05Cmp.c (finish spec_l05Cmp.c (fiOf (GT tab) Tryz.f131 spec_l05Cmp.ms) (decRes tab spec_l05Cmp.rs)) ((loops spec_l05Cmp.c.cuts 1000 spec_l05Cmp.b []).getD 0 []) { slots := [.vs false 5 v0, .vs false 5 v1, .undef, .undef, .undef, .int .i64 v2, .undef, .undef, .undef, .undef, .undef, .undef, .undef, .undef, .undef, .undef, .undef, .undef, .undef, .undef, .undef, .undef, .undef, .undef, .undef, .undef, .undef, .undef, .undef, .undef, .undef, .undef, .undef, .undef, .undef, .undef, .undef, .undef, .undef, .undef, .undef, .undef, .undef, .undef, .undef, .undef], loc := locOf [], nx := 0 }
noncomputable def spec_l05Cmp_l1 (v0 : List Int) (v1 : List Int) (v2 : Int) : Option (Int) := Lw spec_l05Cmp.c (finish spec_l05Cmp.c (fiOf (GT tab) Tryz.f131 spec_l05Cmp.ms) (decRes tab spec_l05Cmp.rs)) ((loops spec_l05Cmp.c.cuts 1000 spec_l05Cmp.b []).getD 1 []) { slots := [.vs false 5 v0, .vs false 5 v1, .undef, .undef, .undef, .int .i64 v2, .undef, .undef, .undef, .undef, .undef, .undef, .undef, .undef, .undef, .undef, .undef, .undef, .undef, .undef, .undef, .undef, .undef, .undef, .undef, .undef, .undef, .undef, .undef, .undef, .undef, .undef, .undef, .undef, .undef, .undef, .undef, .undef, .undef, .undef, .undef, .undef, .undef, .undef, .undef, .undef], loc := locOf [], nx := 0 }
theorem spec_l05Cmp.eq (x0 : List Int) (x1 : List Int) : spec_l05Cmp x0 x1 =
    spec_l05Cmp_l0 x0 x1 (0 : Int) := by kernel_rfl
theorem spec_l05Cmp_l0.eq (v0 : List Int) (v1 : List Int) (v2 : Int) : spec_l05Cmp_l0 v0 v1 v2 =
    bif decide (v2 < (v0.length : Int)) then
      bif decide (v2 < (v1.length : Int)) then
        spec_l05Cmp_l1 v0 v1 v2
      else
        bif decide ((v0.length : Int) < (v1.length : Int)) then
          some (-1 : Int)
        else
          bif decide ((v0.length : Int) > (v1.length : Int)) then
            some (1 : Int)
          else
            some (0 : Int)
    else
      bif decide ((v0.length : Int) < (v1.length : Int)) then
        some (-1 : Int)
      else
        bif decide ((v0.length : Int) > (v1.length : Int)) then
          some (1 : Int)
        else
          some (0 : Int) := (Lw_eq tysOk (getG_con (spec_l05Cmp.gok _)) _ _).trans (by kernel_rfl)
theorem spec_l05Cmp_l1.eq (v0 : List Int) (v1 : List Int) (v2 : Int) : spec_l05Cmp_l1 v0 v1 v2 =
    (at? v0 v2).bind fun y1 =>
    (at? v1 v2).bind fun y2 =>
    bif decide (y1 < y2) then
      some (-1 : Int)
    else
      (at? v0 v2).bind fun y3 =>
      (at? v1 v2).bind fun y4 =>
      bif decide (y3 > y4) then
        some (1 : Int)
      else
        spec_l05Cmp_l0 v0 v1 (IntKind.i64.wrap (v2 + (1 : Int))) := (Lw_eq tysOk (getG_con (spec_l05Cmp.gok _)) _ _).trans (by kernel_rfl)

/-! ### spec_SuffixRows: loop.example/g00688/spec.SuffixRows -/
def spec_SuffixRows.ms : List Mode := [.lend]
def spec_SuffixRows.as : List VSh := [.one (.b (.b (.b (.b (.sl false false 5)))))]
def spec_SuffixRows.rs : RSh := ⟨[.one (.b (.b (.b (.b (.sl true true 3)))))], [none]⟩
noncomputable def spec_SuffixRows.gs (δ : Type) : List (Nat × Callee (GT tab) δ) := [(130, calleeS tab spec_TextOk.ms spec_TextOk.as spec_TextOk.rs spec_TextOk.fn), (131, calleeS tab spec_l05Cmp.ms spec_l05Cmp.as spec_l05Cmp.rs spec_l05Cmp.fn)]
theorem spec_SuffixRows.gok (δ : Type) : AllCon Tryz.prog tab (spec_SuffixRows.gs δ) := .cons spec_TextOk.con (.cons spec_l05Cmp.con (.nil))
noncomputable def spec_SuffixRows.c : Ctx (GT tab) (KT tab) (ResT tab spec_SuffixRows.rs) := { X := XT tab, ty := tyOf tys, inner := fun _ => true, keep := keepOf 0 spec_SuffixRows.ms, cuts := [], live := liveOf [(5, [0, 3, 4]), (9, [0, 3, 4, 5, 6])], G := getG (spec_SuffixRows.gs _) }
noncomputable def spec_SuffixRows.b : Code := bodyOf Tryz.f65
noncomputable def spec_SuffixRows (x0 : List Int) : Option (List Int) := callW spec_SuffixRows.c (fiOf (GT tab) Tryz.f65 spec_SuffixRows.ms) spec_SuffixRows.b (decRes tab spec_SuffixRows.rs) (encArgs tab spec_SuffixRows.as x0)
theorem spec_SuffixRows.fok : FnOk Tryz.prog 65 Tryz.f65 spec_SuffixRows.ms spec_SuffixRows.b := ⟨Tryz.func65, by kernel_rfl, by kernel_rfl⟩
noncomputable def spec_SuffixRows.fn : Args tab spec_SuffixRows.as → Option (ResT tab spec_SuffixRows.rs) := fun x => spec_SuffixRows x
theorem spec_SuffixRows.con {δ : Type} : Con Tryz.prog (KT tab) 65 (calleeS (β := δ) tab spec_SuffixRows.ms spec_SuffixRows.as spec_SuffixRows.rs spec_SuffixRows.fn) := con_shape (c := spec_SuffixRows.c) mixed tysOk (getG_con (spec_SuffixRows.gok _)) spec_SuffixRows.fok rfl rfl (fun _ => rfl)
noncomputable def spec_SuffixRows_l0 (v0 : List Int) (v1 : Int) (v2 : List Int) : Option (List Int) := Lw spec_SuffixRows.c (finish spec_SuffixRows.c (fiOf (GT tab) Tryz.f65 spec_SuffixRows.ms) (decRes tab spec_SuffixRows.rs)) ((loops spec_SuffixRows.c.cuts 1000 spec_SuffixRows.b []).getD 0 []) { slots := [.vs false 5 v0, .undef, .undef, .sl 0 0, .int .i64 v1, .undef, .undef, .undef, .undef, .undef, .undef, .undef, .undef, .undef, .undef, .undef, .undef, .undef, .undef, .undef, .undef, .undef, .undef, .undef, .undef, .undef, .undef, .undef, .undef, .undef, .undef, .undef, .undef, .undef, .undef, .undef, .undef, .undef, .undef, .undef, .undef, .undef, .undef, .undef, .undef, .undef, .undef, .undef, .undef, .undef, .undef, .undef, .undef, .undef, .undef, .undef], loc := locOf [.row 0 true 3 v2], nx := 1 }
noncomputable def spec_SuffixRows_l1 (v0 : List Int) (v1 : Int) (v2 : Int) (v3 : Int) (v4 : List Int) : Option (List Int) := Lw spec_SuffixRows.c (finish spec_SuffixRows.c (fiOf (GT tab) Tryz.f65 spec_SuffixRows.ms) (decRes tab spec_SuffixRows.rs)) ((loops spec_SuffixRows.c.cuts 1000 spec_SuffixRows.b []).getD 1 []) { slots := [.vs false 5 v0, .undef, .undef, .sl 0 0, .int .i64 v1, .int .i64 v2, .int .i64 v3, .undef, .undef, .undef, .undef, .undef, .undef, .undef, .undef, .undef, .undef, .undef, .undef, .undef, .undef, .undef, .undef, .undef, .undef, .undef, .undef, .undef, .undef, .undef, .undef, .undef, .undef, .undef, .undef, .undef, .undef, .undef, .undef, .undef, .undef, .undef, .undef, .undef, .undef, .undef, .undef, .undef, .undef, .undef, .undef, .undef, .undef, .undef, .undef, .undef], loc := locOf [.row 0 true 3 v4], nx := 1 }
theorem spec_SuffixRows.eq (x0 : List Int) : spec_SuffixRows x0 =
    (spec_TextOk x0).bind fun y1 =>
    bif !y1 then
      some ([] : List Int)
    else
      spec_SuffixRows_l0 x0 (x0.length : Int) ([] : List Int) := by kernel_rfl
theorem spec_SuffixRows_l0.eq (v0 : List Int) (v1 : Int) (v2 : List Int) : spec_SuffixRows_l0 v0 v1 v2 =
    bif decide (v1 ≥ (0 : Int)) then
      spec_SuffixRows_l1 v0 v1 (0 : Int) (v2.length : Int) v2
    else
      some v2 := (Lw_eq tysOk (getG_con (spec_SuffixRows.gok _)) _ _).trans (by kernel_rfl)
theorem spec_SuffixRows_l1.eq (v0 : List Int) (v1 : Int) (v2 : Int) (v3 : Int) (v4 : List Int) : spec_SuffixRows_l1 v0 v1 v2 v3 v4 =
    bif decide (v2 < v3) then
      (at? v4 (IntKind.i64.wrap ((IntKind.i64.wrap (v2 + v3)).tdiv (2 : Int)))).bind fun y1 =>
      v4[(IntKind.i64.wrap ((IntKind.i64.wrap (v2 + v3)).tdiv (2 : Int))).toNat]?.bind fun y2 =>
      bif decide (0 ≤ y2 ∧ y2 ≤ ((v0.length : Nat) : Int)) then
        bif decide (0 ≤ v1 ∧ v1 ≤ ((v0.length : Nat) : Int)) then
          (spec_l05Cmp ((v0.take v0.length).drop y2.toNat) ((v0.take v0.length).drop v1.toNat)).bind fun y3 =>
          bif decide (y3 < (0 : Int)) then
            spec_SuffixRows_l1 v0 v1 (IntKind.i64.wrap ((IntKind.i64.wrap ((IntKind.i64.wrap (v2 + v3)).tdiv (2 : Int))) + (1 : Int))) v3 v4
          else
            spec_SuffixRows_l1 v0 v1 v2 (IntKind.i64.wrap ((IntKind.i64.wrap (v2 + v3)).tdiv (2 : Int))) v4
        else
          none
      else
        none
    else
      bif decide (0 ≤ v2 ∧ v2 ≤ ((v4.length : Nat) : Int)) then
        bif decide ((([v1] : List Int).length + ((v4.drop v2.toNat).take (v4.length - v2.toNat)).length) * 8 ≤ 140737488355328) then
          bif decide (0 ≤ v2 ∧ v2 ≤ ((v4.length : Nat) : Int)) then
            bif decide ((([] : List Int).length + ((v4.drop 0).take (v2.toNat - 0)).length) * 8 ≤ 140737488355328) then
              bif decide (((([] : List Int) ++ ((v4.drop 0).take (v2.toNat - 0))).length + (([v1] : List Int) ++ ((v4.drop v2.toNat).take (v4.length - v2.toNat))).length) * 8 ≤ 140737488355328) then
                spec_SuffixRows_l0 v0 (IntKind.i64.wrap (v1 - (1 : Int))) ((([] : List Int) ++ ((v4.drop 0).take (v2.toNat - 0))) ++ (([v1] : List Int) ++ ((v4.drop v2.toNat).take (v4.length - v2.toNat))))
              else
                none
            else
              none
          else
            none
        else
          none
      else
        none := (Lw_eq tysOk (getG_con (spec_SuffixRows.gok _)) _ _).trans (by kernel_rfl)

/-! ### spec_Inverse: loop.example/g00688/spec.Inverse -/
def spec_Inverse.ms : List Mode := [.lend]
def spec_Inverse.as : List VSh := [.one (.b (.b (.b (.b (.sl false false 3)))))]
def spec_Inverse.rs : RSh := ⟨[.one (.b (.b (.b (.b (.sl true true 3))))), .one (.b (.b (.b (.b (.bool)))))], [none]⟩
noncomputable def spec_Inverse.gs (δ : Type) : List (Nat × Callee (GT tab) δ) := []
theorem spec_Inverse.gok (δ : Type) : AllCon Tryz.prog tab (spec_Inverse.gs δ) := .nil
noncomputable def spec_Inverse.c : Ctx (GT tab) (KT tab) (ResT tab spec_Inverse.rs) := { X := XT tab, ty := tyOf tys, inner := fun _ => true, keep := keepOf 0 spec_Inverse.ms, cuts := [], live := liveOf [(5, [0, 4, 5]), (9, [0, 4, 5, 6, 7])], G := getG (spec_Inverse.gs _) }
noncomputable def spec_Inverse.b : Code := bodyOf Tryz.f89
noncomputable def spec_Inverse (x0 : List Int) : Option ((List Int) × Bool) := callW spec_Inverse.c (fiOf (GT tab) Tryz.f89 spec_Inverse.ms) spec_Inverse.b (decRes tab spec_Inverse.rs) (encArgs tab spec_Inverse.as x0)
theorem spec_Inverse.fok : FnOk Tryz.prog 89 Tryz.f89 spec_Inverse.ms spec_Inverse.b := ⟨Tryz.func89, by kernel_rfl, by kernel_rfl⟩
noncomputable def spec_Inverse.fn : Args tab spec_Inverse.as → Option (ResT tab spec_Inverse.rs) := fun x => spec_Inverse x
theorem spec_Inverse.con {δ : Type} : Con Tryz.prog (KT tab) 89 (calleeS (β := δ) tab spec_Inverse.ms spec_Inverse.as spec_Inverse.rs spec_Inverse.fn) := con_shape (c := spec_Inverse.c) mixed tysOk (getG_con (spec_Inverse.gok _)) spec_Inverse.fok rfl rfl (fun _ => rfl)
noncomputable def spec_Inverse_l0 (v0 : List Int) (v1 : Int) (v2 : List Int) : Option ((List Int) × Bool) := Lw spec_Inverse.c (finish spec_Inverse.c (fiOf (GT tab) Tryz.f89 spec_Inverse.ms) (decRes tab spec_Inverse.rs)) ((loops spec_Inverse.c.cuts 1000 spec_Inverse.b []).getD 0 []) { slots := [.vs false 3 v0, .undef, .undef, .undef, .sl 0 0, .int .i64 v1, .undef, .undef, .undef, .undef, .undef, .undef, .undef, .undef, .undef, .undef, .undef, .undef, .undef, .undef, .undef, .undef, .undef, .undef, .undef, .undef, .undef, .undef, .undef, .undef, .undef, .undef, .undef, .undef, .undef, .undef, .undef, .undef], loc := locOf [.row 0 true 3 v2], nx := 1 }
noncomputable def spec_Inverse_l1 (v0 : List Int) (v1 : Int) (v2 : Int) (v3 : Int) (v4 : List Int) : Option ((List Int) × Bool) := Lw spec_Inverse.c (finish spec_Inverse.c (fiOf (GT tab) Tryz.f89 spec_Inverse.ms) (decRes tab spec_Inverse.rs)) ((loops spec_Inverse.c.cuts 1000 spec_Inverse.b []).getD 1 []) { slots := [.vs false 3 v0, .undef, .undef, .undef, .sl 0 0, .int .i64 v1, .int .i64 v2, .int .i64 v3, .undef, .undef, .undef, .undef, .undef, .undef, .undef, .undef, .undef, .undef, .undef, .undef, .undef, .undef, .undef, .undef, .undef, .undef, .undef, .undef, .undef, .undef, .undef, .undef, .undef, .undef, .undef, .undef, .undef, .undef], loc := locOf [.row 0 true 3 v4], nx := 1 }
theorem spec_Inverse.eq (x0 : List Int) : spec_Inverse x0 =
    bif decide ((x0.length : Int) > (301 : Int)) then
      some (([] : List Int), false)
    else
      spec_Inverse_l0 x0 (0 : Int) ([] : List Int) := by kernel_rfl
theorem spec_Inverse_l0.eq (v0 : List Int) (v1 : Int) (v2 : List Int) : spec_Inverse_l0 v0 v1 v2 =
    bif decide (v1 < (v0.length : Int)) then
      spec_Inverse_l1 v0 v1 (-1 : Int) (0 : Int) v2
    else
      some (v2, true) := (Lw_eq tysOk (getG_con (spec_Inverse.gok _)) _ _).trans (by kernel_rfl)
theorem spec_Inverse_l1.eq (v0 : List Int) (v1 : Int) (v2 : Int) (v3 : Int) (v4 : List Int) : spec_Inverse_l1 v0 v1 v2 v3 v4 =
    bif decide (v3 < (v0.length : Int)) then
      (at? v0 v3).bind fun y1 =>
      bif y1 == v1 then
        spec_Inverse_l1 v0 v1 v3 (IntKind.i64.wrap (v3 + (1 : Int))) v4
      else
        spec_Inverse_l1 v0 v1 v2 (IntKind.i64.wrap (v3 + (1 : Int))) v4
    else
      bif decide (v2 < (0 : Int)) then
        some (([] : List Int), false)
      else
        bif decide ((v4.length + ([v2] : List Int).length) * 8 ≤ 140737488355328) then
          spec_Inverse_l0 v0 (IntKind.i64.wrap (v1 + (1 : Int))) (v4 ++ ([v2] : List Int))
        else
          none := (Lw_eq tysOk (getG_con (spec_Inverse.gok _)) _ _).trans (by kernel_rfl)

/-! ### spec_BwtOf: loop.example/g00688/spec.BwtOf -/
def spec_BwtOf.ms : List Mode := [.lend]
def spec_BwtOf.as : List VSh := [.one (.b (.b (.b (.b (.sl false false 5)))))]
def spec_BwtOf.rs : RSh := ⟨[.one (.b (.b (.b (.b (.sl true true 3)))))], [none]⟩
noncomputable def spec_BwtOf.gs (δ : Type) : List (Nat × Callee (GT tab) δ) := [(65, calleeS tab spec_SuffixRows.ms spec_SuffixRows.as spec_SuffixRows.rs spec_SuffixRows.fn)]
theorem spec_BwtOf.gok (δ : Type) : AllCon Tryz.prog tab (spec_BwtOf.gs δ) := .cons spec_SuffixRows.con (.nil)
noncomputable def spec_BwtOf.c : Ctx (GT tab) (KT tab) (ResT tab spec_BwtOf.rs) := { X := XT tab, ty := tyOf tys, inner := fun _ => true, keep := keepOf 0 spec_BwtOf.ms, cuts := [], live := liveOf [(4, [0, 3, 4, 5])], G := getG (spec_BwtOf.gs _) }
noncomputable def spec_BwtOf.b : Code := bodyOf Tryz.f81
noncomputable def spec_BwtOf (x0 : List Int) : Option (List Int) := callW spec_BwtOf.c (fiOf (GT tab) Tryz.f81 spec_BwtOf.ms) spec_BwtOf.b (decRes tab spec_BwtOf.rs) (encArgs tab spec_BwtOf.as x0)
theorem spec_BwtOf.fok : FnOk Tryz.prog 81 Tryz.f81 spec_BwtOf.ms spec_BwtOf.b := ⟨Tryz.func81, by kernel_rfl, by kernel_rfl⟩
noncomputable def spec_BwtOf.fn : Args tab spec_BwtOf.as → Option (ResT tab spec_BwtOf.rs) := fun x => spec_BwtOf x
theorem spec_BwtOf.con {δ : Type} : Con Tryz.prog (KT tab) 81 (calleeS (β := δ) tab spec_BwtOf.ms spec_BwtOf.as spec_BwtOf.rs spec_BwtOf.fn) := con_shape (c := spec_BwtOf.c) mixed tysOk (getG_con (spec_BwtOf.gok _)) spec_BwtOf.fok rfl rfl (fun _ => rfl)
noncomputable def spec_BwtOf_l0 (v0 : List Int) (v1 : Int) (v2 : List Int) (v3 : List Int) : Option (List Int) := Lw spec_BwtOf.c (finish spec_BwtOf.c (fiOf (GT tab) Tryz.f81 spec_BwtOf.ms) (decRes tab spec_BwtOf.rs)) ((loops spec_BwtOf.c.cuts 1000 spec_BwtOf.b []).getD 0 []) { slots := [.vs false 5 v0, .undef, .undef, .sl 0 0, .sl 1 0, .int .i64 v1, .undef, .undef, .undef, .undef, .undef, .undef, .undef, .undef, .undef, .undef, .undef, .undef, .undef, .undef, .undef, .undef, .undef, .undef, .undef, .undef, .undef, .undef, .undef, .undef, .undef, .undef, .undef, .undef, .undef, .undef, .undef], loc := locOf [.row 0 true 3 v2, .row 0 true 3 v3], nx := 2 }
theorem spec_BwtOf.eq (x0 : List Int) : spec_BwtOf x0 =
    (spec_SuffixRows x0).bind fun y1 =>
    spec_BwtOf_l0 x0 (0 : Int) y1 ([] : List Int) := by kernel_rfl
theorem spec_BwtOf_l0.eq (v0 : List Int) (v1 : Int) (v2 : List Int) (v3 : List Int) : spec_BwtOf_l0 v0 v1 v2 v3 =
    bif decide (v1 < (v2.length : Int)) then
      (at? v2 v1).bind fun y1 =>
      v2[v1.toNat]?.bind fun y2 =>
      bif y2 == (0 : Int) then
        bif decide ((v3.length + ([(0 : Int)] : List Int).length) * 8 ≤ 140737488355328) then
          spec_BwtOf_l0 v0 (IntKind.i64.wrap (v1 + (1 : Int))) v2 (v3 ++ ([(0 : Int)] : List Int))
        else
          none
      else
        (at? v2 v1).bind fun y3 =>
        v2[v1.toNat]?.bind fun y4 =>
        (at? v0 (IntKind.i64.wrap (y4 - (1 : Int)))).bind fun y5 =>
        bif decide ((v3.length + ([IntKind.i64.wrap ((IntKind.i64.wrap y5) + (1 : Int))] : List Int).length) * 8 ≤ 140737488355328) then
          spec_BwtOf_l0 v0 (IntKind.i64.wrap (v1 + (1 : Int))) v2 (v3 ++ ([IntKind.i64.wrap ((IntKind.i64.wrap y5) + (1 : Int))] : List Int))
        else
          none
    else
      some v3 := (Lw_eq tysOk (getG_con (spec_BwtOf.gok _)) _ _).trans (by kernel_rfl)

/-! ### spec_SymsOk: loop.example/g00688/spec.SymsOk -/
def spec_SymsOk.ms : List Mode := [.lend]
def spec_SymsOk.as : List VSh := [.one (.b (.b (.b (.b (.sl false false 3)))))]
def spec_SymsOk.rs : RSh := ⟨[.one (.b (.b (.b (.b (.bool)))))], [none]⟩
noncomputable def spec_SymsOk.gs (δ : Type) : List (Nat × Callee (GT tab) δ) := []
theorem spec_SymsOk.gok (δ : Type) : AllCon Tryz.prog tab (spec_SymsOk.gs δ) := .nil
noncomputable def spec_SymsOk.c : Ctx (GT tab) (KT tab) (ResT tab spec_SymsOk.rs) := { X := XT tab, ty := tyOf tys, inner := fun _ => true, keep := keepOf 0 spec_SymsOk.ms, cuts := [], live := liveOf [(4, [0, 3])], G := getG (spec_SymsOk.gs _) }
noncomputable def spec_SymsOk.b : Code := bodyOf Tryz.f137
noncomputable def spec_SymsOk (x0 : List Int) : Option (Bool) := callW spec_SymsOk.c (fiOf (GT tab) Tryz.f137 spec_SymsOk.ms) spec_SymsOk.b (decRes tab spec_SymsOk.rs) (encArgs tab spec_SymsOk.as x0)
theorem spec_SymsOk.fok : FnOk Tryz.prog 137 Tryz.f137 spec_SymsOk.ms spec_SymsOk.b := ⟨Tryz.func137, by kernel_rfl, by kernel_rfl⟩
noncomputable def spec_SymsOk.fn : Args tab spec_SymsOk.as → Option (ResT tab spec_SymsOk.rs) := fun x => spec_SymsOk x
theorem spec_SymsOk.con {δ : Type} : Con Tryz.prog (KT tab) 137 (calleeS (β := δ) tab spec_SymsOk.ms spec_SymsOk.as spec_SymsOk.rs spec_SymsOk.fn) := con_shape (c := spec_SymsOk.c) mixed tysOk (getG_con (spec_SymsOk.gok _)) spec_SymsOk.fok rfl rfl (fun _ => rfl)
noncomputable def spec_SymsOk_l0 (v0 : List Int) (v1 : Int) : Option (Bool) := Lw spec_SymsOk.c (finish spec_SymsOk.c (fiOf (GT tab) Tryz.f137 spec_SymsOk.ms) (decRes tab spec_SymsOk.rs)) ((loops spec_SymsOk.c.cuts 1000 spec_SymsOk.b []).getD 0 []) { slots := [.vs false 3 v0, .undef, .undef, .int .i64 v1, .undef, .undef, .undef, .undef, .undef, .undef, .undef, .undef, .undef, .undef, .undef, .undef, .undef, .undef, .undef, .undef, .undef, .undef, .undef, .undef, .undef], loc := locOf [], nx := 0 }
theorem spec_SymsOk.eq (x0 : List Int) : spec_SymsOk x0 =
    bif decide ((x0.length : Int) > (301 : Int)) then
      some false
    else
      spec_SymsOk_l0 x0 (0 : Int) := by kernel_rfl
theorem spec_SymsOk_l0.eq (v0 : List Int) (v1 : Int) : spec_SymsOk_l0 v0 v1 =
    bif decide (v1 < (v0.length : Int)) then
      (at? v0 v1).bind fun y1 =>
      bif decide (y1 < (0 : Int)) then
        some false
      else
        (at? v0 v1).bind fun y2 =>
        bif decide (y2 > (256 : Int)) then
          some false
        else
          spec_SymsOk_l0 v0 (IntKind.i64.wrap (v1 + (1 : Int)))
    else
      some true := (Lw_eq tysOk (getG_con (spec_SymsOk.gok _)) _ _).trans (by kernel_rfl)

/-! ### spec_Counts: loop.example/g00688/spec.Counts -/
def spec_Counts.ms : List Mode := [.lend]
def spec_Counts.as : List VSh := [.one (.b (.b (.b (.b (.sl false false 3)))))]
def spec_Counts.rs : RSh := ⟨[.one (.b (.b (.b (.b (.sl true true 3)))))], [none]⟩
noncomputable def spec_Counts.gs (δ : Type) : List (Nat × Callee (GT tab) δ) := [(137, calleeS tab spec_SymsOk.ms spec_SymsOk.as spec_SymsOk.rs spec_SymsOk.fn)]
theorem spec_Counts.gok (δ : Type) : AllCon Tryz.prog tab (spec_Counts.gs δ) := .cons spec_SymsOk.con (.nil)
noncomputable def spec_Counts.c : Ctx (GT tab) (KT tab) (ResT tab spec_Counts.rs) := { X := XT tab, ty := tyOf tys, inner := fun _ => true, keep := keepOf 0 spec_Counts.ms, cuts := [], live := liveOf [(5, [0, 3, 4]), (9, [0, 3, 4, 5, 6])], G := getG (spec_Counts.gs _) }
noncomputable def spec_Counts.b : Code := bodyOf Tryz.f167
noncomputable def spec_Counts (x0 : List Int) : Option (List Int) := callW spec_Counts.c (fiOf (GT tab) Tryz.f167 spec_Counts.ms) spec_Counts.b (decRes tab spec_Counts.rs) (encArgs tab spec_Counts.as x0)
theorem spec_Counts.fok : FnOk Tryz.prog 167 Tryz.f167 spec_Counts.ms spec_Counts.b := ⟨Tryz.func167, by kernel_rfl, by kernel_rfl⟩
noncomputable def spec_Counts.fn : Args tab spec_Counts.as → Option (ResT tab spec_Counts.rs) := fun x => spec_Counts x
theorem spec_Counts.con {δ : Type} : Con Tryz.prog (KT tab) 167 (calleeS (β := δ) tab spec_Counts.ms spec_Counts.as spec_Counts.rs spec_Counts.fn) := con_shape (c := spec_Counts.c) mixed tysOk (getG_con (spec_Counts.gok _)) spec_Counts.fok rfl rfl (fun _ => rfl)
noncomputable def spec_Counts_l0 (v0 : List Int) (v1 : Int) (v2 : List Int) : Option (List Int) := Lw spec_Counts.c (finish spec_Counts.c (fiOf (GT tab) Tryz.f167 spec_Counts.ms) (decRes tab spec_Counts.rs)) ((loops spec_Counts.c.cuts 1000 spec_Counts.b []).getD 0 []) { slots := [.vs false 3 v0, .undef, .undef, .sl 0 0, .int .i64 v1, .undef, .undef, .undef, .undef, .undef, .undef, .undef, .undef, .undef, .undef, .undef, .undef, .undef, .undef, .undef, .undef, .undef, .undef, .undef, .undef, .undef, .undef, .undef, .undef, .undef, .undef, .undef, .undef, .undef], loc := locOf [.row 0 true 3 v2], nx := 1 }
noncomputable def spec_Counts_l1 (v0 : List Int) (v1 : Int) (v2 : Int) (v3 : Int) (v4 : List Int) : Option (List Int) := Lw spec_Counts.c (finish spec_Counts.c (fiOf (GT tab) Tryz.f167 spec_Counts.ms) (decRes tab spec_Counts.rs)) ((loops spec_Counts.c.cuts 1000 spec_Counts.b []).getD 1 []) { slots := [.vs false 3 v0, .undef, .undef, .sl 0 0, .int .i64 v1, .int .i64 v2, .int .i64 v3, .undef, .undef, .undef, .undef, .undef, .undef, .undef, .undef, .undef, .undef, .undef, .undef, .undef, .undef, .undef, .undef, .undef, .undef, .undef, .undef, .undef, .undef, .undef, .undef, .undef, .undef, .undef], loc := locOf [.row 0 true 3 v4], nx := 1 }
theorem spec_Counts.eq (x0 : List Int) : spec_Counts x0 =
    (spec_SymsOk x0).bind fun y1 =>
    bif !y1 then
      some ([] : List Int)
    else
      spec_Counts_l0 x0 (0 : Int) ([] : List Int) := by kernel_rfl
theorem spec_Counts_l0.eq (v0 : List Int) (v1 : Int) (v2 : List Int) : spec_Counts_l0 v0 v1 v2 =
    bif decide (v1 ≤ (257 : Int)) then
      spec_Counts_l1 v0 v1 (0 : Int) (0 : Int) v2
    else
      some v2 := (Lw_eq tysOk (getG_con (spec_Counts.gok _)) _ _).trans (by kernel_rfl)
theorem spec_Counts_l1.eq (v0 : List Int) (v1 : Int) (v2 : Int) (v3 : Int) (v4 : List Int) : spec_Counts_l1 v0 v1 v2 v3 v4 =
    bif decide (v3 < (v0.length : Int)) then
      (at? v0 v3).bind fun y1 =>
      bif decide (y1 < v1) then
        spec_Counts_l1 v0 v1 (IntKind.i64.wrap (v2 + (1 : Int))) (IntKind.i64.wrap (v3 + (1 : Int))) v4
      else
        spec_Counts_l1 v0 v1 v2 (IntKind.i64.wrap (v3 + (1 : Int))) v4
    else
      bif decide ((v4.length + ([v2] : List Int).length) * 8 ≤ 140737488355328) then
        spec_Counts_l0 v0 (IntKind.i64.wrap (v1 + (1 : Int))) (v4 ++ ([v2] : List Int))
      else
        none := (Lw_eq tysOk (getG_con (spec_Counts.gok _)) _ _).trans (by kernel_rfl)

/-! ### spec_l02Pow: loop.example/g00688/spec.l02Pow -/
def spec_l02Pow.ms : List Mode := [.lend]
def spec_l02Pow.as : List VSh := [.one (.b (.b (.b (.b (.int .i64)))))]
def spec_l02Pow.rs : RSh := ⟨[.one (.b (.b (.b (.b (.int .i64)))))], [none]⟩
noncomputable def spec_l02Pow.gs (δ : Type) : List (Nat × Callee (GT tab) δ) := []
theorem spec_l02Pow.gok (δ : Type) : AllCon Tryz.prog tab (spec_l02Pow.gs δ) := .nil
noncomputable def spec_l02Pow.c : Ctx (GT tab) (KT tab) (ResT tab spec_l02Pow.rs) := { X := XT tab, ty := tyOf tys, inner := fun _ => true, keep := keepOf 0 spec_l02Pow.ms, cuts := [], live := liveOf [(2, [0, 3])], G := getG (spec_l02Pow.gs _) }
noncomputable def spec_l02Pow.b : Code := bodyOf Tryz.f176
noncomputable def spec_l02Pow (x0 : Int) : Option (Int) := callW spec_l02Pow.c (fiOf (GT tab) Tryz.f176 spec_l02Pow.ms) spec_l02Pow.b (decRes tab spec_l02Pow.rs) (encArgs tab spec_l02Pow.as x0)
theorem spec_l02Pow.fok : FnOk Tryz.prog 176 Tryz.f176 spec_l02Pow.ms spec_l02Pow.b := ⟨Tryz.func176, by kernel_rfl, by kernel_rfl⟩
noncomputable def spec_l02Pow.fn : Args tab spec_l02Pow.as → Option (ResT tab spec_l02Pow.rs) := fun x => spec_l02Pow x
theorem spec_l02Pow.con {δ : Type} : Con Tryz.prog (KT tab) 176 (calleeS (β := δ) tab spec_l02Pow.ms spec_l02Pow.as spec_l02Pow.rs spec_l02Pow.fn) := con_shape (c := spec_l02Pow.c) mixed tysOk (getG_con (spec_l02Pow.gok _)) spec_l02Pow.fok rfl rfl (fun _ => rfl)
noncomputable def spec_l02Pow_l0 (v0 : Int) (v1 : Int) : Option (Int) := Lw spec_l02Pow.c (finish spec_l02Pow.c (fiOf (GT tab) Tryz.f176 spec_l02Pow.ms) (decRes tab spec_l02Pow.rs)) ((loops spec_l02Pow.c.cuts 1000 spec_l02Pow.b []).getD 0 []) { slots := [.int .i64 v0, .undef, .undef, .int .i64 v1, .undef, .undef, .undef, .undef, .undef, .undef, .undef], loc := locOf [], nx := 0 }
theorem spec_l02Pow.eq (x0 : Int) : spec_l02Pow x0 =
    spec_l02Pow_l0 x0 (1 : Int) := by kernel_rfl
theorem spec_l02Pow_l0.eq (v0 : Int) (v1 : Int) : spec_l02Pow_l0 v0 v1 =
    bif decide (v0 > (0 : Int)) then
      spec_l02Pow_l0 (IntKind.i64.wrap (v0 - (1 : Int))) (IntKind.i64.wrap ((2 : Int) * v1))
    else
      some v1 := (Lw_eq tysOk (getG_con (spec_l02Pow.gok _)) _ _).trans (by kernel_rfl)

/-! ### spec_l01Power: loop.example/g00688/spec.l01Power -/
def spec_l01Power.ms : List Mode := [.lend]
def spec_l01Power.as : List VSh := [.one (.b (.b (.b (.b (.int .i64)))))]
def spec_l01Power.rs : RSh := ⟨[.one (.b (.b (.b (.b (.int .u64)))))], [none]⟩
noncomputable def spec_l01Power.gs (δ : Type) : List (Nat × Callee (GT tab) δ) := []
theorem spec_l01Power.gok (δ : Type) : AllCon Tryz.prog tab (spec_l01Power.gs δ) := .nil
noncomputable def spec_l01Power.c : Ctx (GT tab) (KT tab) (ResT tab spec_l01Power.rs) := { X := XT tab, ty := tyOf tys, inner := fun _ => true, keep := keepOf 0 spec_l01Power.ms, cuts := [], live := liveOf [(2, [0, 3])], G := getG (spec_l01Power.gs _) }
noncomputable def spec_l01Power.b : Code := bodyOf Tryz.f198
noncomputable def spec_l01Power (x0 : Int) : Option (Int) := callW spec_l01Power.c (fiOf (GT tab) Tryz.f198 spec_l01Power.ms) spec_l01Power.b (decRes tab spec_l01Power.rs) (encArgs tab spec_l01Power.as x0)
theorem spec_l01Power.fok : FnOk Tryz.prog 198 Tryz.f198 spec_l01Power.ms spec_l01Power.b := ⟨Tryz.func198, by kernel_rfl, by kernel_rfl⟩
noncomputable def spec_l01Power.fn : Args tab spec_l01Power.as → Option (ResT tab spec_l01Power.rs) := fun x => spec_l01Power x
theorem spec_l01Power.con {δ : Type} : Con Tryz.prog (KT tab) 198 (calleeS (β := δ) tab spec_l01Power.ms spec_l01Power.as spec_l01Power.rs spec_l01Power.fn) := con_shape (c := spec_l01Power.c) mixed tysOk (getG_con (spec_l01Power.gok _)) spec_l01Power.fok rfl rfl (fun _ => rfl)
noncomputable def spec_l01Power_l0 (v0 : Int) (v1 : Int) : Option (Int) := Lw spec_l01Power.c (finish spec_l01Power.c (fiOf (GT tab) Tryz.f198 spec_l01Power.ms) (decRes tab spec_l01Power.rs)) ((loops spec_l01Power.c.cuts 1000 spec_l01Power.b []).getD 0 []) { slots := [.int .i64 v0, .undef, .undef, .int .u64 v1, .undef, .undef, .undef, .undef, .undef, .undef, .undef], loc := locOf [], nx := 0 }
theorem spec_l01Power.eq (x0 : Int) : spec_l01Power x0 =
    spec_l01Power_l0 x0 (1 : Int) := by kernel_rfl
theorem spec_l01Power_l0.eq (v0 : Int) (v1 : Int) : spec_l01Power_l0 v0 v1 =
    bif decide (v0 > (0 : Int)) then
      spec_l01Power_l0 (IntKind.i64.wrap (v0 - (1 : Int))) (IntKind.u64.wrap ((2 : Int) * v1))
    else
      some v1 := (Lw_eq tysOk (getG_con (spec_l01Power.gok _)) _ _).trans (by kernel_rfl)

/-! ### spec_BitsOf: loop.example/g00688/spec.BitsOf -/
def spec_BitsOf.ms : List Mode := [.lend]
def spec_BitsOf.as : List VSh := [.one (.b (.b (.b (.b (.sl false false 3)))))]
def spec_BitsOf.rs : RSh := ⟨[.agg [.int .i64, .sl true true 126], .one (.b (.b (.b (.b (.bool)))))], [none]⟩
noncomputable def spec_BitsOf.gs (δ : Type) : List (Nat × Callee (GT tab) δ) := [(198, calleeS tab spec_l01Power.ms spec_l01Power.as spec_l01Power.rs spec_l01Power.fn)]
theorem spec_BitsOf.gok (δ : Type) : AllCon Tryz.prog tab (spec_BitsOf.gs δ) := .cons spec_l01Power.con (.nil)
noncomputable def spec_BitsOf.c : Ctx (GT tab) (KT tab) (ResT tab spec_BitsOf.rs) := { X := XT tab, ty := tyOf tys, inner := fun _ => true, keep := keepOf 0 spec_BitsOf.ms, cuts := [9], live := liveOf [(5, [0, 2, 4, 5]), (9, [0, 2, 4, 5])], G := getG (spec_BitsOf.gs _) }
noncomputable def spec_BitsOf.b : Code := bodyOf Tryz.f170
noncomputable def spec_BitsOf (x0 : List Int) : Option ((Int × (List Int)) × Bool) := callW spec_BitsOf.c (fiOf (GT tab) Tryz.f170 spec_BitsOf.ms) spec_BitsOf.b (decRes tab spec_BitsOf.rs) (encArgs tab spec_BitsOf.as x0)
theorem spec_BitsOf.fok : FnOk Tryz.prog 170 Tryz.f170 spec_BitsOf.ms spec_BitsOf.b := ⟨Tryz.func170, by kernel_rfl, by kernel_rfl⟩
noncomputable def spec_BitsOf.fn : Args tab spec_BitsOf.as → Option (ResT tab spec_BitsOf.rs) := fun x => spec_BitsOf x
theorem spec_BitsOf.con {δ : Type} : Con Tryz.prog (KT tab) 170 (calleeS (β := δ) tab spec_BitsOf.ms spec_BitsOf.as spec_BitsOf.rs spec_BitsOf.fn) := con_shape (c := spec_BitsOf.c) mixed tysOk (getG_con (spec_BitsOf.gok _)) spec_BitsOf.fok rfl rfl (fun _ => rfl)
noncomputable def spec_BitsOf_l0 (v0 : List Int) (v1 : Int) (v2 : Int) (v3 : List Int) (v4 : Int) (v5 : List Int) : Option ((Int × (List Int)) × Bool) := Lw spec_BitsOf.c (finish spec_BitsOf.c (fiOf (GT tab) Tryz.f170 spec_BitsOf.ms) (decRes tab spec_BitsOf.rs)) ((loops spec_BitsOf.c.cuts 1000 spec_BitsOf.b []).getD 0 []) { slots := [.vs false 3 v0, .undef, .ptr 0 0, .undef, .ptr 2 0, .int .i64 v1, .undef, .undef, .undef, .undef, .undef, .undef, .undef, .undef, .undef, .undef, .undef, .undef, .undef, .undef, .undef, .undef, .undef, .undef, .undef, .undef, .undef, .undef, .undef, .undef, .undef, .undef, .undef, .undef, .undef, .undef, .undef, .undef, .undef, .undef, .undef, .undef, .undef, .undef, .undef, .undef, .undef, .undef, .undef, .undef, .undef, .undef, .undef, .undef, .undef, .undef, .undef, .undef, .undef, .undef, .undef], loc := locOf [.box 30 [.int .i64 v2, .sl 1 0], .row 0 true 126 v3, .box 30 [.int .i64 v4, .sl 3 0], .row 0 true 126 v5], nx := 4 }
noncomputable def spec_BitsOf_l1 (v0 : List Int) (v1 : Int) (v2 : Int) (v3 : List Int) (v4 : Int) (v5 : List Int) : Option ((Int × (List Int)) × Bool) := Lw spec_BitsOf.c (finish spec_BitsOf.c (fiOf (GT tab) Tryz.f170 spec_BitsOf.ms) (decRes tab spec_BitsOf.rs)) ((loops spec_BitsOf.c.cuts 1000 spec_BitsOf.b []).getD 1 []) { slots := [.vs false 3 v0, .undef, .ptr 0 0, .undef, .ptr 2 0, .int .i64 v1, .undef, .undef, .undef, .undef, .undef, .undef, .undef, .undef, .undef, .undef, .undef, .undef, .undef, .undef, .undef, .undef, .undef, .undef, .undef, .undef, .undef, .undef, .undef, .undef, .undef, .undef, .undef, .undef, .undef, .undef, .undef, .undef, .undef, .undef, .undef, .undef, .undef, .undef, .undef, .undef, .undef, .undef, .undef, .undef, .undef, .undef, .undef, .undef, .undef, .undef, .undef, .undef, .undef, .undef, .undef], loc := locOf [.box 30 [.int .i64 v2, .sl 1 0], .row 0 true 126 v3, .box 30 [.int .i64 v4, .sl 3 0], .row 0 true 126 v5], nx := 4 }
theorem spec_BitsOf.eq (x0 : List Int) : spec_BitsOf x0 =
    bif decide ((x0.length : Int) > (5000 : Int)) then
      some (((0 : Int), ([] : List Int)), false)
    else
      spec_BitsOf_l0 x0 (0 : Int) (0 : Int) ([] : List Int) (x0.length : Int) ([] : List Int) := by kernel_rfl
theorem spec_BitsOf_l0.eq (v0 : List Int) (v1 : Int) (v2 : Int) (v3 : List Int) (v4 : Int) (v5 : List Int) : spec_BitsOf_l0 v0 v1 v2 v3 v4 v5 =
    bif decide (v1 < (v0.length : Int)) then
      (at? v0 v1).bind fun y1 =>
      bif y1 != (0 : Int) then
        (at? v0 v1).bind fun y2 =>
        bif y2 != (1 : Int) then
          some (((0 : Int), ([] : List Int)), false)
        else
          spec_BitsOf_l1 v0 v1 v2 v3 v4 v5
      else
        spec_BitsOf_l1 v0 v1 v2 v3 v4 v5
    else
      some ((v4, v5), true) := (Lw_eq tysOk (getG_con (spec_BitsOf.gok _)) _ _).trans (by kernel_rfl)
theorem spec_BitsOf_l1.eq (v0 : List Int) (v1 : Int) (v2 : Int) (v3 : List Int) (v4 : Int) (v5 : List Int) : spec_BitsOf_l1 v0 v1 v2 v3 v4 v5 =
    bif v1.tmod (64 : Int) == (0 : Int) then
      bif decide ((v5.length + ([(0 : Int)] : List Int).length) * 8 ≤ 140737488355328) then
        (at? v0 v1).bind fun y1 =>
        bif y1 == (1 : Int) then
          (at? (v5 ++ ([(0 : Int)] : List Int)) (IntKind.i64.wrap (v1.tdiv (64 : Int)))).bind fun y2 =>
          (v5 ++ ([(0 : Int)] : List Int))[(IntKind.i64.wrap (v1.tdiv (64 : Int))).toNat]?.bind fun y3 =>
          (spec_l01Power (v1.tmod (64 : Int))).bind fun y4 =>
          (at? (v5 ++ ([(0 : Int)] : List Int)) (IntKind.i64.wrap (v1.tdiv (64 : Int)))).bind fun y5 =>
          (v5 ++ ([(0 : Int)] : List Int))[(IntKind.i64.wrap (v1.tdiv (64 : Int))).toNat]?.bind fun y6 =>
          spec_BitsOf_l0 v0 (IntKind.i64.wrap (v1 + (1 : Int))) v2 v3 v4 ((v5 ++ ([(0 : Int)] : List Int)).set ((IntKind.i64.wrap (v1.tdiv (64 : Int))).toNat) (IntKind.u64.wrap (y3 + y4)))
        else
          spec_BitsOf_l0 v0 (IntKind.i64.wrap (v1 + (1 : Int))) v2 v3 v4 (v5 ++ ([(0 : Int)] : List Int))
      else
        none
    else
      (at? v0 v1).bind fun y7 =>
      bif y7 == (1 : Int) then
        (at? v5 (IntKind.i64.wrap (v1.tdiv (64 : Int)))).bind fun y8 =>
        v5[(IntKind.i64.wrap (v1.tdiv (64 : Int))).toNat]?.bind fun y9 =>
        (spec_l01Power (v1.tmod (64 : Int))).bind fun y10 =>
        (at? v5 (IntKind.i64.wrap (v1.tdiv (64 : Int)))).bind fun y11 =>
        v5[(IntKind.i64.wrap (v1.tdiv (64 : Int))).toNat]?.bind fun y12 =>
        spec_BitsOf_l0 v0 (IntKind.i64.wrap (v1 + (1 : Int))) v2 v3 v4 (v5.set ((IntKind.i64.wrap (v1.tdiv (64 : Int))).toNat) (IntKind.u64.wrap (y9 + y10)))
      else
        spec_BitsOf_l0 v0 (IntKind.i64.wrap (v1 + (1 : Int))) v2 v3 v4 v5 := (Lw_eq tysOk (getG_con (spec_BitsOf.gok _)) _ _).trans (by kernel_rfl)

/-! ### spec_WaveOf: loop.example/g00688/spec.WaveOf -/
def spec_WaveOf.ms : List Mode := [.lend]
def spec_WaveOf.as : List VSh := [.one (.b (.b (.b (.b (.sl false false 3)))))]
def spec_WaveOf.rs : RSh := ⟨[.agg [.int .i64, .sl true true 3, .sl true true 30], .one (.b (.b (.b (.b (.bool)))))], [none]⟩
noncomputable def spec_WaveOf.gs (δ : Type) : List (Nat × Callee (GT tab) δ) := [(170, calleeS tab spec_BitsOf.ms spec_BitsOf.as spec_BitsOf.rs spec_BitsOf.fn), (176, calleeS tab spec_l02Pow.ms spec_l02Pow.as spec_l02Pow.rs spec_l02Pow.fn)]
theorem spec_WaveOf.gok (δ : Type) : AllCon Tryz.prog tab (spec_WaveOf.gs δ) := .cons spec_BitsOf.con (.cons spec_l02Pow.con (.nil))
noncomputable def spec_WaveOf.c : Ctx (GT tab) (KT tab) (ResT tab spec_WaveOf.rs) := { X := XT tab, ty := tyOf tys, inner := fun _ => true, keep := keepOf 0 spec_WaveOf.ms, cuts := [], live := liveOf [(4, [0, 2, 4]), (11, [2, 5, 6, 7]), (17, [2, 5, 6, 7, 8, 9, 10, 11])], G := getG (spec_WaveOf.gs _) }
noncomputable def spec_WaveOf.b : Code := bodyOf Tryz.f168
noncomputable def spec_WaveOf (x0 : List Int) : Option ((Int × (List Int) × (List (Int × (List Int)))) × Bool) := callW spec_WaveOf.c (fiOf (GT tab) Tryz.f168 spec_WaveOf.ms) spec_WaveOf.b (decRes tab spec_WaveOf.rs) (encArgs tab spec_WaveOf.as x0)
theorem spec_WaveOf.fok : FnOk Tryz.prog 168 Tryz.f168 spec_WaveOf.ms spec_WaveOf.b := ⟨Tryz.func168, by kernel_rfl, by kernel_rfl⟩
noncomputable def spec_WaveOf.fn : Args tab spec_WaveOf.as → Option (ResT tab spec_WaveOf.rs) := fun x => spec_WaveOf x
theorem spec_WaveOf.con {δ : Type} : Con Tryz.prog (KT tab) 168 (calleeS (β := δ) tab spec_WaveOf.ms spec_WaveOf.as spec_WaveOf.rs spec_WaveOf.fn) := con_shape (c := spec_WaveOf.c) mixed tysOk (getG_con (spec_WaveOf.gok _)) spec_WaveOf.fok rfl rfl (fun _ => rfl)
noncomputable def spec_WaveOf_l0 (v0 : List Int) (v1 : Int) (v2 : Int) (v3 : List Int) (v4 : List (Int × (List Int))) : Option ((Int × (List Int) × (List (Int × (List Int)))) × Bool) := Lw spec_WaveOf.c (finish spec_WaveOf.c (fiOf (GT tab) Tryz.f168 spec_WaveOf.ms) (decRes tab spec_WaveOf.rs)) ((loops spec_WaveOf.c.cuts 1000 spec_WaveOf.b []).getD 0 []) { slots := [.vs false 3 v0, .undef, .ptr 0 0, .undef, .int .i64 v1, .undef, .undef, .undef, .undef, .undef, .undef, .undef, .undef, .undef, .undef, .undef, .undef, .undef, .undef, .undef, .undef, .undef, .undef, .undef, .undef, .undef, .undef, .undef, .undef, .undef, .undef, .undef, .undef, .undef, .undef, .undef, .undef, .undef, .undef, .undef, .undef, .undef, .undef, .undef, .undef, .undef, .undef, .undef, .undef, .undef, .undef, .undef, .undef, .undef, .undef, .undef, .undef, .undef, .undef, .undef, .undef, .undef, .undef, .undef, .undef, .undef, .undef, .undef, .undef, .undef, .undef, .undef, .undef, .undef, .undef, .undef, .undef, .undef, .undef, .undef, .undef, .undef, .undef, .undef, .undef, .undef, .undef, .undef, .undef, .undef, .undef, .undef, .undef, .undef, .undef, .undef, .undef, .undef, .undef, .undef, .undef, .undef, .undef, .undef, .undef, .undef, .undef, .undef], loc := locOf [.box 27 [.int .i64 v2, .sl 1 0, .sl 2 0], .row 0 true 3 v3, .row 0 true 30 v4], nx := 3 }
noncomputable def spec_WaveOf_l1 (v0 : Int) (v1 : Int) (v2 : List Int) (v3 : List (Int × (List Int))) (v4 : Int) (v5 : List Int) (v6 : List (Int × (List Int))) (v7 : List Int) : Option ((Int × (List Int) × (List (Int × (List Int)))) × Bool) := Lw spec_WaveOf.c (finish spec_WaveOf.c (fiOf (GT tab) Tryz.f168 spec_WaveOf.ms) (decRes tab spec_WaveOf.rs)) ((loops spec_WaveOf.c.cuts 1000 spec_WaveOf.b []).getD 1 []) { slots := [.undef, .undef, .ptr 0 0, .undef, .undef, .ptr 3 0, .sl 6 0, .int .i64 v0, .undef, .undef, .undef, .undef, .undef, .undef, .undef, .undef, .undef, .undef, .undef, .undef, .undef, .undef, .undef, .undef, .undef, .undef, .undef, .undef, .undef, .undef, .undef, .undef, .undef, .undef, .undef, .undef, .undef, .undef, .undef, .undef, .undef, .undef, .undef, .undef, .undef, .undef, .undef, .undef, .undef, .undef, .undef, .undef, .undef, .undef, .undef, .undef, .undef, .undef, .undef, .undef, .undef, .undef, .undef, .undef, .undef, .undef, .undef, .undef, .undef, .undef, .undef, .undef, .undef, .undef, .undef, .undef, .undef, .undef, .undef, .undef, .undef, .undef, .undef, .undef, .undef, .undef, .undef, .undef, .undef, .undef, .undef, .undef, .undef, .undef, .undef, .undef, .undef, .undef, .undef, .undef, .undef, .undef, .undef, .undef, .undef, .undef, .undef, .undef], loc := locOf [.box 27 [.int .i64 v1, .sl 1 0, .sl 2 0], .row 0 true 3 v2, .row 0 true 30 v3, .box 27 [.int .i64 v4, .sl 4 0, .sl 5 0], .row 0 true 3 v5, .row 0 true 30 v6, .row 0 true 3 v7], nx := 7 }
noncomputable def spec_WaveOf_l2 (v0 : Int) (v1 : Int) (v2 : Int) (v3 : List Int) (v4 : List (Int × (List Int))) (v5 : Int) (v6 : List Int) (v7 : List (Int × (List Int))) (v8 : List Int) (v9 : List Int) (v10 : List Int) (v11 : List Int) : Option ((Int × (List Int) × (List (Int × (List Int)))) × Bool) := Lw spec_WaveOf.c (finish spec_WaveOf.c (fiOf (GT tab) Tryz.f168 spec_WaveOf.ms) (decRes tab spec_WaveOf.rs)) ((loops spec_WaveOf.c.cuts 1000 spec_WaveOf.b []).getD 2 []) { slots := [.undef, .undef, .ptr 0 0, .undef, .undef, .ptr 3 0, .sl 6 0, .int .i64 v0, .sl 7 0, .sl 8 0, .sl 9 0, .int .i64 v1, .undef, .undef, .undef, .undef, .undef, .undef, .undef, .undef, .undef, .undef, .undef, .undef, .undef, .undef, .undef, .undef, .undef, .undef, .undef, .undef, .undef, .undef, .undef, .undef, .undef, .undef, .undef, .undef, .undef, .undef, .undef, .undef, .undef, .undef, .undef, .undef, .undef, .undef, .undef, .undef, .undef, .undef, .undef, .undef, .undef, .undef, .undef, .undef, .undef, .undef, .undef, .undef, .undef, .undef, .undef, .undef, .undef, .undef, .undef, .undef, .undef, .undef, .undef, .undef, .undef, .undef, .undef, .undef, .undef, .undef, .undef, .undef, .undef, .undef, .undef, .undef, .undef, .undef, .undef, .undef, .undef, .undef, .undef, .undef, .undef, .undef, .undef, .undef, .undef, .undef, .undef, .undef, .undef, .undef, .undef, .undef], loc := locOf [.box 27 [.int .i64 v2, .sl 1 0, .sl 2 0], .row 0 true 3 v3, .row 0 true 30 v4, .box 27 [.int .i64 v5, .sl 4 0, .sl 5 0], .row 0 true 3 v6, .row 0 true 30 v7, .row 0 true 3 v8, .row 0 true 3 v9, .row 0 true 3 v10, .row 0 true 3 v11], nx := 10 }
theorem spec_WaveOf.eq (x0 : List Int) : spec_WaveOf x0 =
    bif decide ((x0.length : Int) > (1000 : Int)) then
      some (((0 : Int), ([] : List Int), ([] : List (Int × (List Int)))), false)
    else
      spec_WaveOf_l0 x0 (0 : Int) (0 : Int) ([] : List Int) ([] : List (Int × (List Int))) := by kernel_rfl
theorem spec_WaveOf_l0.eq (v0 : List Int) (v1 : Int) (v2 : Int) (v3 : List Int) (v4 : List (Int × (List Int))) : spec_WaveOf_l0 v0 v1 v2 v3 v4 =
    bif decide (v1 < (v0.length : Int)) then
      (at? v0 v1).bind fun y1 =>
      bif decide (y1 < (0 : Int)) then
        some (((0 : Int), ([] : List Int), ([] : List (Int × (List Int)))), false)
      else
        (at? v0 v1).bind fun y2 =>
        bif decide (y2 > (511 : Int)) then
          some (((0 : Int), ([] : List Int), ([] : List (Int × (List Int)))), false)
        else
          spec_WaveOf_l0 v0 (IntKind.i64.wrap (v1 + (1 : Int))) v2 v3 v4
    else
      bif decide ((([] : List Int).length + v0.length) * 8 ≤ 140737488355328) then
        spec_WaveOf_l1 (0 : Int) v2 v3 v4 (v0.length : Int) ([] : List Int) ([] : List (Int × (List Int))) (([] : List Int) ++ v0)
      else
        none := (Lw_eq tysOk (getG_con (spec_WaveOf.gok _)) _ _).trans (by kernel_rfl)
theorem spec_WaveOf_l1.eq (v0 : Int) (v1 : Int) (v2 : List Int) (v3 : List (Int × (List Int))) (v4 : Int) (v5 : List Int) (v6 : List (Int × (List Int))) (v7 : List Int) : spec_WaveOf_l1 v0 v1 v2 v3 v4 v5 v6 v7 =
    bif decide (v0 < (9 : Int)) then
      spec_WaveOf_l2 v0 (0 : Int) v1 v2 v3 v4 v5 v6 v7 ([] : List Int) ([] : List Int) ([] : List Int)
    else
      some ((v4, v5, v6), true) := (Lw_eq tysOk (getG_con (spec_WaveOf.gok _)) _ _).trans (by kernel_rfl)
theorem spec_WaveOf_l2.eq (v0 : Int) (v1 : Int) (v2 : Int) (v3 : List Int) (v4 : List (Int × (List Int))) (v5 : Int) (v6 : List Int) (v7 : List (Int × (List Int))) (v8 : List Int) (v9 : List Int) (v10 : List Int) (v11 : List Int) : spec_WaveOf_l2 v0 v1 v2 v3 v4 v5 v6 v7 v8 v9 v10 v11 =
    bif decide (v1 < (v8.length : Int)) then
      (at? v8 v1).bind fun y1 =>
      v8[v1.toNat]?.bind fun y2 =>
      (spec_l02Pow (IntKind.i64.wrap ((8 : Int) - v0))).bind fun y3 =>
      bif decide (y3 = (0 : Int)) then
        none
      else
        bif decide ((v9.length + ([(IntKind.i64.wrap (y2.tdiv y3)).tmod (2 : Int)] : List Int).length) * 8 ≤ 140737488355328) then
          bif (IntKind.i64.wrap (y2.tdiv y3)).tmod (2 : Int) == (0 : Int) then
            (at? v8 v1).bind fun y4 =>
            v8[v1.toNat]?.bind fun y5 =>
            bif decide ((v10.length + ([y5] : List Int).length) * 8 ≤ 140737488355328) then
              spec_WaveOf_l2 v0 (IntKind.i64.wrap (v1 + (1 : Int))) v2 v3 v4 v5 v6 v7 v8 (v9 ++ ([(IntKind.i64.wrap (y2.tdiv y3)).tmod (2 : Int)] : List Int)) (v10 ++ ([y5] : List Int)) v11
            else
              none
          else
            (at? v8 v1).bind fun y6 =>
            v8[v1.toNat]?.bind fun y7 =>
            bif decide ((v11.length + ([y7] : List Int).length) * 8 ≤ 140737488355328) then
              spec_WaveOf_l2 v0 (IntKind.i64.wrap (v1 + (1 : Int))) v2 v3 v4 v5 v6 v7 v8 (v9 ++ ([(IntKind.i64.wrap (y2.tdiv y3)).tmod (2 : Int)] : List Int)) v10 (v11 ++ ([y7] : List Int))
            else
              none
        else
          none
    else
      (spec_BitsOf v9).bind fun y8 =>
      bif decide ((v7.length + ([(y8.1.1, y8.1.2)] : List (Int × (List Int))).length) * 32 ≤ 140737488355328) then
        bif decide ((v6.length + ([(v10.length : Int)] : List Int).length) * 8 ≤ 140737488355328) then
          bif decide ((v10.length + v11.length) * 8 ≤ 140737488355328) then
            spec_WaveOf_l1 (IntKind.i64.wrap (v0 + (1 : Int))) v2 v3 v4 v5 (v6 ++ ([(v10.length : Int)] : List Int)) (v7 ++ ([(y8.1.1, y8.1.2)] : List (Int × (List Int)))) (v10 ++ v11)
          else
            none
        else
          none
      else
        none := (Lw_eq tysOk (getG_con (spec_WaveOf.gok _)) _ _).trans (by kernel_rfl)

/-! ### spec_l01Bool: loop.example/g00688/spec.l01Bool -/
def spec_l01Bool.ms : List Mode := [.lend]
def spec_l01Bool.as : List VSh := [.one (.b (.b (.b (.b (.bool)))))]
def spec_l01Bool.rs : RSh := ⟨[.one (.b (.b (.b (.b (.int .i64)))))], [none]⟩
noncomputable def spec_l01Bool.gs (δ : Type) : List (Nat × Callee (GT tab) δ) := []
theorem spec_l01Bool.gok (δ : Type) : AllCon Tryz.prog tab (spec_l01Bool.gs δ) := .nil
noncomputable def spec_l01Bool.c : Ctx (GT tab) (KT tab) (ResT tab spec_l01Bool.rs) := { X := XT tab, ty := tyOf tys, inner := fun _ => true, keep := keepOf 0 spec_l01Bool.ms, cuts := [], live := liveOf [], G := getG (spec_l01Bool.gs _) }
noncomputable def spec_l01Bool.b : Code := bodyOf Tryz.f169
noncomputable def spec_l01Bool (x0 : Bool) : Option (Int) := callW spec_l01Bool.c (fiOf (GT tab) Tryz.f169 spec_l01Bool.ms) spec_l01Bool.b (decRes tab spec_l01Bool.rs) (encArgs tab spec_l01Bool.as x0)
theorem spec_l01Bool.fok : FnOk Tryz.prog 169 Tryz.f169 spec_l01Bool.ms spec_l01Bool.b := ⟨Tryz.func169, by kernel_rfl, by kernel_rfl⟩
noncomputable def spec_l01Bool.fn : Args tab spec_l01Bool.as → Option (ResT tab spec_l01Bool.rs) := fun x => spec_l01Bool x
theorem spec_l01Bool.con {δ : Type} : Con Tryz.prog (KT tab) 169 (calleeS (β := δ) tab spec_l01Bool.ms spec_l01Bool.as spec_l01Bool.rs spec_l01Bool.fn) := con_shape (c := spec_l01Bool.c) mixed tysOk (getG_con (spec_l01Bool.gok _)) spec_l01Bool.fok rfl rfl (fun _ => rfl)
theorem spec_l01Bool.eq (x0 : Bool) : spec_l01Bool x0 =
    bif x0 then
      some (1 : Int)
    else
      some (0 : Int) := by kernel_rfl

/-! ### spec_WidthOf: loop.example/g00688/spec.WidthOf -/
def spec_WidthOf.ms : List Mode := [.lend]
def spec_WidthOf.as : List VSh := [.one (.b (.b (.b (.b (.int .i64)))))]
def spec_WidthOf.rs : RSh := ⟨[.one (.b (.b (.b (.b (.int .i64)))))], [none]⟩
noncomputable def spec_WidthOf.gs (δ : Type) : List (Nat × Callee (GT tab) δ) := []
theorem spec_WidthOf.gok (δ : Type) : AllCon Tryz.prog tab (spec_WidthOf.gs δ) := .nil
noncomputable def spec_WidthOf.c : Ctx (GT tab) (KT tab) (ResT tab spec_WidthOf.rs) := { X := XT tab, ty := tyOf tys, inner := fun _ => true, keep := keepOf 0 spec_WidthOf.ms, cuts := [], live := liveOf [(4, [0, 3])], G := getG (spec_WidthOf.gs _) }
noncomputable def spec_WidthOf.b : Code := bodyOf Tryz.f172
noncomputable def spec_WidthOf (x0 : Int) : Option (Int) := callW spec_WidthOf.c (fiOf (GT tab) Tryz.f172 spec_WidthOf.ms) spec_WidthOf.b (decRes tab spec_WidthOf.rs) (encArgs tab spec_WidthOf.as x0)
theorem spec_WidthOf.fok : FnOk Tryz.prog 172 Tryz.f172 spec_WidthOf.ms spec_WidthOf.b := ⟨Tryz.func172, by kernel_rfl, by kernel_rfl⟩
noncomputable def spec_WidthOf.fn : Args tab spec_WidthOf.as → Option (ResT tab spec_WidthOf.rs) := fun x => spec_WidthOf x
theorem spec_WidthOf.con {δ : Type} : Con Tryz.prog (KT tab) 172 (calleeS (β := δ) tab spec_WidthOf.ms spec_WidthOf.as spec_WidthOf.rs spec_WidthOf.fn) := con_shape (c := spec_WidthOf.c) mixed tysOk (getG_con (spec_WidthOf.gok _)) spec_WidthOf.fok rfl rfl (fun _ => rfl)
noncomputable def spec_WidthOf_l0 (v0 : Int) (v1 : Int) : Option (Int) := Lw spec_WidthOf.c (finish spec_WidthOf.c (fiOf (GT tab) Tryz.f172 spec_WidthOf.ms) (decRes tab spec_WidthOf.rs)) ((loops spec_WidthOf.c.cuts 1000 spec_WidthOf.b []).getD 0 []) { slots := [.int .i64 v0, .undef, .undef, .int .i64 v1, .undef, .undef, .undef, .undef, .undef, .undef, .undef, .undef, .undef], loc := locOf [], nx := 0 }
theorem spec_WidthOf.eq (x0 : Int) : spec_WidthOf x0 =
    bif decide (x0 < (0 : Int)) then
      some (-1 : Int)
    else
      spec_WidthOf_l0 x0 (0 : Int) := by kernel_rfl
theorem spec_WidthOf_l0.eq (v0 : Int) (v1 : Int) : spec_WidthOf_l0 v0 v1 =
    bif decide (v0 > (0 : Int)) then
      spec_WidthOf_l0 (IntKind.i64.wrap (v0.tdiv (2 : Int))) (IntKind.i64.wrap (v1 + (1 : Int)))
    else
      some v1 := (Lw_eq tysOk (getG_con (spec_WidthOf.gok _)) _ _).trans (by kernel_rfl)

/-! ### spec_PackOf: loop.example/g00688/spec.PackOf -/
def spec_PackOf.ms : List Mode := [.lend, .lend]
def spec_PackOf.as : List VSh := [.one (.b (.b (.b (.b (.sl false false 3))))), .one (.b (.b (.b (.b (.int .i64)))))]
def spec_PackOf.rs : RSh := ⟨[.agg [.int .i64, .int .i64, .int .i64, .sl true true 126], .one (.b (.b (.b (.b (.bool)))))], [none, none]⟩
noncomputable def spec_PackOf.gs (δ : Type) : List (Nat × Callee (GT tab) δ) := [(170, calleeS tab spec_BitsOf.ms spec_BitsOf.as spec_BitsOf.rs spec_BitsOf.fn), (176, calleeS tab spec_l02Pow.ms spec_l02Pow.as spec_l02Pow.rs spec_l02Pow.fn)]
theorem spec_PackOf.gok (δ : Type) : AllCon Tryz.prog tab (spec_PackOf.gs δ) := .cons spec_BitsOf.con (.cons spec_l02Pow.con (.nil))
noncomputable def spec_PackOf.c : Ctx (GT tab) (KT tab) (ResT tab spec_PackOf.rs) := { X := XT tab, ty := tyOf tys, inner := fun _ => true, keep := keepOf 0 spec_PackOf.ms, cuts := [3, 10], live := liveOf [(3, [0, 1, 4]), (5, [0, 1, 4, 6, 7]), (10, [0, 1, 4, 6, 7, 8]), (11, [0, 1, 4, 6, 7, 8, 9])], G := getG (spec_PackOf.gs _) }
noncomputable def spec_PackOf.b : Code := bodyOf Tryz.f171
noncomputable def spec_PackOf (x0 : List Int) (x1 : Int) : Option ((Int × Int × Int × (List Int)) × Bool) := callW spec_PackOf.c (fiOf (GT tab) Tryz.f171 spec_PackOf.ms) spec_PackOf.b (decRes tab spec_PackOf.rs) (encArgs tab spec_PackOf.as (x0, x1))
theorem spec_PackOf.fok : FnOk Tryz.prog 171 Tryz.f171 spec_PackOf.ms spec_PackOf.b := ⟨Tryz.func171, by kernel_rfl, by kernel_rfl⟩
noncomputable def spec_PackOf.fn : Args tab spec_PackOf.as → Option (ResT tab spec_PackOf.rs) := fun x => spec_PackOf x.1 x.2
theorem spec_PackOf.con {δ : Type} : Con Tryz.prog (KT tab) 171 (calleeS (β := δ) tab spec_PackOf.ms spec_PackOf.as spec_PackOf.rs spec_PackOf.fn) := con_shape (c := spec_PackOf.c) mixed tysOk (getG_con (spec_PackOf.gok _)) spec_PackOf.fok rfl rfl (fun _ => rfl)
noncomputable def spec_PackOf_l0 (v0 : List Int) (v1 : Int) (v2 : Int) (v3 : Int) (v4 : Int) (v5 : List Int) : Option ((Int × Int × Int × (List Int)) × Bool) := Lw spec_PackOf.c (finish spec_PackOf.c (fiOf (GT tab) Tryz.f171 spec_PackOf.ms) (decRes tab spec_PackOf.rs)) ((loops spec_PackOf.c.cuts 1000 spec_PackOf.b []).getD 0 []) { slots := [.vs false 3 v0, .int .i64 v1, .undef, .undef, .ptr 0 0, .undef, .undef, .undef, .undef, .undef, .undef, .undef, .undef, .undef, .undef, .undef, .undef, .undef, .undef, .undef, .undef, .undef, .undef, .undef, .undef, .undef, .undef, .undef, .undef, .undef, .undef, .undef, .undef, .undef, .undef, .undef, .undef, .undef, .undef, .undef, .undef, .undef, .undef, .undef, .undef, .undef, .undef, .undef, .undef, .undef, .undef, .undef, .undef, .undef, .undef, .undef, .undef, .undef, .undef, .undef, .undef, .undef, .undef, .undef, .undef, .undef, .undef, .undef, .undef, .undef, .undef, .undef, .undef], loc := locOf [.box 32 [.int .i64 v2, .int .i64 v3, .int .i64 v4, .sl 1 0], .row 0 true 126 v5], nx := 2 }
noncomputable def spec_PackOf_l1 (v0 : List Int) (v1 : Int) (v2 : Int) (v3 : Int) (v4 : Int) (v5 : Int) (v6 : List Int) (v7 : List Int) : Option ((Int × Int × Int × (List Int)) × Bool) := Lw spec_PackOf.c (finish spec_PackOf.c (fiOf (GT tab) Tryz.f171 spec_PackOf.ms) (decRes tab spec_PackOf.rs)) ((loops spec_PackOf.c.cuts 1000 spec_PackOf.b []).getD 1 []) { slots := [.vs false 3 v0, .int .i64 v1, .undef, .undef, .ptr 0 0, .undef, .sl 2 0, .int .i64 v2, .undef, .undef, .undef, .undef, .undef, .undef, .undef, .undef, .undef, .undef, .undef, .undef, .undef, .undef, .undef, .undef, .undef, .undef, .undef, .undef, .undef, .undef, .undef, .undef, .undef, .undef, .undef, .undef, .undef, .undef, .undef, .undef, .undef, .undef, .undef, .undef, .undef, .undef, .undef, .undef, .undef, .undef, .undef, .undef, .undef, .undef, .undef, .undef, .undef, .undef, .undef, .undef, .undef, .undef, .undef, .undef, .undef, .undef, .undef, .undef, .undef, .undef, .undef, .undef, .undef], loc := locOf [.box 32 [.int .i64 v3, .int .i64 v4, .int .i64 v5, .sl 1 0], .row 0 true 126 v6, .row 0 true 3 v7], nx := 3 }
noncomputable def spec_PackOf_l2 (v0 : List Int) (v1 : Int) (v2 : Int) (v3 : Int) (v4 : Int) (v5 : Int) (v6 : Int) (v7 : List Int) (v8 : List Int) : Option ((Int × Int × Int × (List Int)) × Bool) := Lw spec_PackOf.c (finish spec_PackOf.c (fiOf (GT tab) Tryz.f171 spec_PackOf.ms) (decRes tab spec_PackOf.rs)) ((loops spec_PackOf.c.cuts 1000 spec_PackOf.b []).getD 2 []) { slots := [.vs false 3 v0, .int .i64 v1, .undef, .undef, .ptr 0 0, .undef, .sl 2 0, .int .i64 v2, .int .i64 v3, .undef, .undef, .undef, .undef, .undef, .undef, .undef, .undef, .undef, .undef, .undef, .undef, .undef, .undef, .undef, .undef, .undef, .undef, .undef, .undef, .undef, .undef, .undef, .undef, .undef, .undef, .undef, .undef, .undef, .undef, .undef, .undef, .undef, .undef, .undef, .undef, .undef, .undef, .undef, .undef, .undef, .undef, .undef, .undef, .undef, .undef, .undef, .undef, .undef, .undef, .undef, .undef, .undef, .undef, .undef, .undef, .undef, .undef, .undef, .undef, .undef, .undef, .undef, .undef], loc := locOf [.box 32 [.int .i64 v4, .int .i64 v5, .int .i64 v6, .sl 1 0], .row 0 true 126 v7, .row 0 true 3 v8], nx := 3 }
noncomputable def spec_PackOf_l3 (v0 : List Int) (v1 : Int) (v2 : Int) (v3 : Int) (v4 : Int) (v5 : Int) (v6 : Int) (v7 : Int) (v8 : List Int) (v9 : List Int) : Option ((Int × Int × Int × (List Int)) × Bool) := Lw spec_PackOf.c (finish spec_PackOf.c (fiOf (GT tab) Tryz.f171 spec_PackOf.ms) (decRes tab spec_PackOf.rs)) ((loops spec_PackOf.c.cuts 1000 spec_PackOf.b []).getD 3 []) { slots := [.vs false 3 v0, .int .i64 v1, .undef, .undef, .ptr 0 0, .undef, .sl 2 0, .int .i64 v2, .int .i64 v3, .int .i64 v4, .undef, .undef, .undef, .undef, .undef, .undef, .undef, .undef, .undef, .undef, .undef, .undef, .undef, .undef, .undef, .undef, .undef, .undef, .undef, .undef, .undef, .undef, .undef, .undef, .undef, .undef, .undef, .undef, .undef, .undef, .undef, .undef, .undef, .undef, .undef, .undef, .undef, .undef, .undef, .undef, .undef, .undef, .undef, .undef, .undef, .undef, .undef, .undef, .undef, .undef, .undef, .undef, .undef, .undef, .undef, .undef, .undef, .undef, .undef, .undef, .undef, .undef, .undef], loc := locOf [.box 32 [.int .i64 v5, .int .i64 v6, .int .i64 v7, .sl 1 0], .row 0 true 126 v8, .row 0 true 3 v9], nx := 3 }
theorem spec_PackOf.eq (x0 : List Int) (x1 : Int) : spec_PackOf x0 x1 =
    bif decide (x1 < (0 : Int)) then
      some (((0 : Int), (0 : Int), (0 : Int), ([] : List Int)), false)
    else
      bif decide (x1 > (32 : Int)) then
        some (((0 : Int), (0 : Int), (0 : Int), ([] : List Int)), false)
      else
        bif decide ((x0.length : Int) > (5000 : Int)) then
          some (((0 : Int), (0 : Int), (0 : Int), ([] : List Int)), false)
        else
          bif decide (IntKind.i64.wrap ((x0.length : Int) * x1) > (5000 : Int)) then
            some (((0 : Int), (0 : Int), (0 : Int), ([] : List Int)), false)
          else
            spec_PackOf_l0 x0 x1 (0 : Int) (0 : Int) (0 : Int) ([] : List Int) := by kernel_rfl
theorem spec_PackOf_l0.eq (v0 : List Int) (v1 : Int) (v2 : Int) (v3 : Int) (v4 : Int) (v5 : List Int) : spec_PackOf_l0 v0 v1 v2 v3 v4 v5 =
    spec_PackOf_l1 v0 v1 (0 : Int) v2 v3 v4 v5 ([] : List Int) := (Lw_eq tysOk (getG_con (spec_PackOf.gok _)) _ _).trans (by kernel_rfl)
theorem spec_PackOf_l1.eq (v0 : List Int) (v1 : Int) (v2 : Int) (v3 : Int) (v4 : Int) (v5 : Int) (v6 : List Int) (v7 : List Int) : spec_PackOf_l1 v0 v1 v2 v3 v4 v5 v6 v7 =
    bif decide (v2 < (v0.length : Int)) then
      (at? v0 v2).bind fun y1 =>
      bif decide (y1 < (0 : Int)) then
        some (((0 : Int), (0 : Int), (0 : Int), ([] : List Int)), false)
      else
        (spec_l02Pow v1).bind fun y2 =>
        bif decide (y1 ≥ y2) then
          some (((0 : Int), (0 : Int), (0 : Int), ([] : List Int)), false)
        else
          spec_PackOf_l2 v0 v1 v2 y1 v3 v4 v5 v6 v7
    else
      (spec_BitsOf v7).bind fun y3 =>
      some ((v1, (v0.length : Int), y3.1.1, y3.1.2), true) := (Lw_eq tysOk (getG_con (spec_PackOf.gok _)) _ _).trans (by kernel_rfl)
theorem spec_PackOf_l2.eq (v0 : List Int) (v1 : Int) (v2 : Int) (v3 : Int) (v4 : Int) (v5 : Int) (v6 : Int) (v7 : List Int) (v8 : List Int) : spec_PackOf_l2 v0 v1 v2 v3 v4 v5 v6 v7 v8 =
    spec_PackOf_l3 v0 v1 v2 v3 (0 : Int) v4 v5 v6 v7 v8 := (Lw_eq tysOk (getG_con (spec_PackOf.gok _)) _ _).trans (by kernel_rfl)
theorem spec_PackOf_l3.eq (v0 : List Int) (v1 : Int) (v2 : Int) (v3 : Int) (v4 : Int) (v5 : Int) (v6 : Int) (v7 : Int) (v8 : List Int) (v9 : List Int) : spec_PackOf_l3 v0 v1 v2 v3 v4 v5 v6 v7 v8 v9 =
    bif decide (v4 < v1) then
      bif decide ((v9.length + ([v3.tmod (2 : Int)] : List Int).length) * 8 ≤ 140737488355328) then
        spec_PackOf_l3 v0 v1 v2 (IntKind.i64.wrap (v3.tdiv (2 : Int))) (IntKind.i64.wrap (v4 + (1 : Int))) v5 v6 v7 v8 (v9 ++ ([v3.tmod (2 : Int)] : List Int))
      else
        none
    else
      spec_PackOf_l1 v0 v1 (IntKind.i64.wrap (v2 + (1 : Int))) v5 v6 v7 v8 v9 := (Lw_eq tysOk (getG_con (spec_PackOf.gok _)) _ _).trans (by kernel_rfl)

/-! ### spec_FmOf: loop.example/g00688/spec.FmOf -/
def spec_FmOf.ms : List Mode := [.lend, .lend]
def spec_FmOf.as : List VSh := [.one (.b (.b (.b (.b (.sl false false 5))))), .one (.b (.b (.b (.b (.int .i64)))))]
def spec_FmOf.rs : RSh := ⟨[.agg [.int .i64, .int .i64, .int .i64, .sl true true 3, .sl true true 30, .sl true true 3, .int .i64, .sl true true 126, .int .i64, .int .i64, .int .i64, .sl true true 126, .int .i64, .int .i64, .int .i64, .sl true true 126], .one (.b (.b (.b (.b (.bool)))))], [none, none]⟩
noncomputable def spec_FmOf.gs (δ : Type) : List (Nat × Callee (GT tab) δ) := [(65, calleeS tab spec_SuffixRows.ms spec_SuffixRows.as spec_SuffixRows.rs spec_SuffixRows.fn), (81, calleeS tab spec_BwtOf.ms spec_BwtOf.as spec_BwtOf.rs spec_BwtOf.fn), (89, calleeS tab spec_Inverse.ms spec_Inverse.as spec_Inverse.rs spec_Inverse.fn), (124, calleeS tab spec_l09Rate.ms spec_l09Rate.as spec_l09Rate.rs spec_l09Rate.fn), (130, calleeS tab spec_TextOk.ms spec_TextOk.as spec_TextOk.rs spec_TextOk.fn), (167, calleeS tab spec_Counts.ms spec_Counts.as spec_Counts.rs spec_Counts.fn), (168, calleeS tab spec_WaveOf.ms spec_WaveOf.as spec_WaveOf.rs spec_WaveOf.fn), (169, calleeS tab spec_l01Bool.ms spec_l01Bool.as spec_l01Bool.rs spec_l01Bool.fn), (170, calleeS tab spec_BitsOf.ms spec_BitsOf.as spec_BitsOf.rs spec_BitsOf.fn), (171, calleeS tab spec_PackOf.ms spec_PackOf.as spec_PackOf.rs spec_PackOf.fn), (172, calleeS tab spec_WidthOf.ms spec_WidthOf.as spec_WidthOf.rs spec_WidthOf.fn)]
theorem spec_FmOf.gok (δ : Type) : AllCon Tryz.prog tab (spec_FmOf.gs δ) := .cons spec_SuffixRows.con (.cons spec_BwtOf.con (.cons spec_Inverse.con (.cons spec_l09Rate.con (.cons spec_TextOk.con (.cons spec_Counts.con (.cons spec_WaveOf.con (.cons spec_l01Bool.con (.cons spec_BitsOf.con (.cons spec_PackOf.con (.cons spec_WidthOf.con (.nil)))))))))))
noncomputable def spec_FmOf.c : Ctx (GT tab) (KT tab) (ResT tab spec_FmOf.rs) := { X := XT tab, ty := tyOf tys, inner := fun _ => true, keep := keepOf 0 spec_FmOf.ms, cuts := [3], live := liveOf [(3, [0, 1, 4]), (11, [0, 1, 4, 6, 7, 10, 11, 12, 13]), (18, [0, 1, 4, 7, 10, 11, 12, 14, 15])], G := getG (spec_FmOf.gs _) }
noncomputable def spec_FmOf.b : Code := bodyOf Tryz.f111
noncomputable def spec_FmOf (x0 : List Int) (x1 : Int) : Option ((Int × Int × Int × (List Int) × (List (Int × (List Int))) × (List Int) × Int × (List Int) × Int × Int × Int × (List Int) × Int × Int × Int × (List Int)) × Bool) := callW spec_FmOf.c (fiOf (GT tab) Tryz.f111 spec_FmOf.ms) spec_FmOf.b (decRes tab spec_FmOf.rs) (encArgs tab spec_FmOf.as (x0, x1))
theorem spec_FmOf.fok : FnOk Tryz.prog 111 Tryz.f111 spec_FmOf.ms spec_FmOf.b := ⟨Tryz.func111, by kernel_rfl, by kernel_rfl⟩
noncomputable def spec_FmOf.fn : Args tab spec_FmOf.as → Option (ResT tab spec_FmOf.rs) := fun x => spec_FmOf x.1 x.2
theorem spec_FmOf.con {δ : Type} : Con Tryz.prog (KT tab) 111 (calleeS (β := δ) tab spec_FmOf.ms spec_FmOf.as spec_FmOf.rs spec_FmOf.fn) := con_shape (c := spec_FmOf.c) mixed tysOk (getG_con (spec_FmOf.gok _)) spec_FmOf.fok rfl rfl (fun _ => rfl)
noncomputable def spec_FmOf_l0 (v0 : List Int) (v1 : Int) (v2 : Int) (v3 : Int) (v4 : Int) (v5 : Int) (v6 : Int) (v7 : Int) (v8 : Int) (v9 : Int) (v10 : Int) (v11 : Int) (v12 : List Int) (v13 : List (Int × (List Int))) (v14 : List Int) (v15 : List Int) (v16 : List Int) (v17 : List Int) : Option ((Int × Int × Int × (List Int) × (List (Int × (List Int))) × (List Int) × Int × (List Int) × Int × Int × Int × (List Int) × Int × Int × Int × (List Int)) × Bool) := Lw spec_FmOf.c (finish spec_FmOf.c (fiOf (GT tab) Tryz.f111 spec_FmOf.ms) (decRes tab spec_FmOf.rs)) ((loops spec_FmOf.c.cuts 1000 spec_FmOf.b []).getD 0 []) { slots := [.vs false 5 v0, .int .i64 v1, .undef, .undef, .ptr 0 0, .undef, .undef, .undef, .undef, .undef, .undef, .undef, .undef, .undef, .undef, .undef, .undef, .undef, .undef, .undef, .undef, .undef, .undef, .undef, .undef, .undef, .undef, .undef, .undef, .undef, .undef, .undef, .undef, .undef, .undef, .undef, .undef, .undef, .undef, .undef, .undef, .undef, .undef, .undef, .undef, .undef, .undef, .undef, .undef, .undef, .undef, .undef, .undef, .undef, .undef, .undef, .undef, .undef, .undef, .undef, .undef, .undef, .undef, .undef, .undef, .undef, .undef, .undef, .undef, .undef, .undef, .undef, .undef, .undef, .undef, .undef, .undef, .undef, .undef, .undef, .undef, .undef, .undef, .undef, .undef, .undef, .undef, .undef, .undef, .undef, .undef, .undef, .undef, .undef, .undef, .undef, .undef, .undef, .undef, .undef, .undef, .undef, .undef, .undef, .undef, .undef, .undef, .undef, .undef, .undef, .undef, .undef, .undef, .undef, .undef, .undef, .undef, .undef, .undef, .undef, .undef], loc := locOf [.box 34 [.int .i64 v2, .int .i64 v3, .int .i64 v4, .sl 1 0, .sl 2 0, .sl 3 0, .int .i64 v5, .sl 4 0, .int .i64 v6, .int .i64 v7, .int .i64 v8, .sl 5 0, .int .i64 v9, .int .i64 v10, .int .i64 v11, .sl 6 0], .row 0 true 3 v12, .row 0 true 30 v13, .row 0 true 3 v14, .row 0 true 126 v15, .row 0 true 126 v16, .row 0 true 126 v17], nx := 7 }
noncomputable def spec_FmOf_l1 (v0 : List Int) (v1 : Int) (v2 : Int) (v3 : Int) (v4 : Int) (v5 : Int) (v6 : Int) (v7 : Int) (v8 : Int) (v9 : Int) (v10 : Int) (v11 : Int) (v12 : Int) (v13 : List Int) (v14 : List (Int × (List Int))) (v15 : List Int) (v16 : List Int) (v17 : List Int) (v18 : List Int) (v19 : List Int) (v20 : List Int) (v21 : Int) (v22 : Int) (v23 : Int) (v24 : Int) (v25 : Int) (v26 : Int) (v27 : Int) (v28 : Int) (v29 : Int) (v30 : Int) (v31 : List Int) (v32 : List (Int × (List Int))) (v33 : List Int) (v34 : List Int) (v35 : List Int) (v36 : List Int) (v37 : List Int) (v38 : List Int) : Option ((Int × Int × Int × (List Int) × (List (Int × (List Int))) × (List Int) × Int × (List Int) × Int × Int × Int × (List Int) × Int × Int × Int × (List Int)) × Bool) := Lw spec_FmOf.c (finish spec_FmOf.c (fiOf (GT tab) Tryz.f111 spec_FmOf.ms) (decRes tab spec_FmOf.rs)) ((loops spec_FmOf.c.cuts 1000 spec_FmOf.b []).getD 1 []) { slots := [.vs false 5 v0, .int .i64 v1, .undef, .undef, .ptr 0 0, .undef, .sl 7 0, .sl 8 0, .undef, .undef, .ptr 9 0, .sl 16 0, .sl 17 0, .int .i64 v2, .undef, .undef, .undef, .undef, .undef, .undef, .undef, .undef, .undef, .undef, .undef, .undef, .undef, .undef, .undef, .undef, .undef, .undef, .undef, .undef, .undef, .undef, .undef, .undef, .undef, .undef, .undef, .undef, .undef, .undef, .undef, .undef, .undef, .undef, .undef, .undef, .undef, .undef, .undef, .undef, .undef, .undef, .undef, .undef, .undef, .undef, .undef, .undef, .undef, .undef, .undef, .undef, .undef, .undef, .undef, .undef, .undef, .undef, .undef, .undef, .undef, .undef, .undef, .undef, .undef, .undef, .undef, .undef, .undef, .undef, .undef, .undef, .undef, .undef, .undef, .undef, .undef, .undef, .undef, .undef, .undef, .undef, .undef, .undef, .undef, .undef, .undef, .undef, .undef, .undef, .undef, .undef, .undef, .undef, .undef, .undef, .undef, .undef, .undef, .undef, .undef, .undef, .undef, .undef, .undef, .undef, .undef], loc := locOf [.box 34 [.int .i64 v3, .int .i64 v4, .int .i64 v5, .sl 1 0, .sl 2 0, .sl 3 0, .int .i64 v6, .sl 4 0, .int .i64 v7, .int .i64 v8, .int .i64 v9, .sl 5 0, .int .i64 v10, .int .i64 v11, .int .i64 v12, .sl 6 0], .row 0 true 3 v13, .row 0 true 30 v14, .row 0 true 3 v15, .row 0 true 126 v16, .row 0 true 126 v17, .row 0 true 126 v18, .row 0 true 3 v19, .row 0 true 3 v20, .box 34 [.int .i64 v21, .int .i64 v22, .int .i64 v23, .sl 10 0, .sl 11 0, .sl 12 0, .int .i64 v24, .sl 13 0, .int .i64 v25, .int .i64 v26, .int .i64 v27, .sl 14 0, .int .i64 v28, .int .i64 v29, .int .i64 v30, .sl 15 0], .row 0 true 3 v31, .row 0 true 30 v32, .row 0 true 3 v33, .row 0 true 126 v34, .row 0 true 126 v35, .row 0 true 126 v36, .row 0 true 3 v37, .row 0 true 3 v38], nx := 18 }
noncomputable def spec_FmOf_l2 (v0 : List Int) (v1 : Int) (v2 : Int) (v3 : Int) (v4 : Int) (v5 : Int) (v6 : Int) (v7 : Int) (v8 : Int) (v9 : Int) (v10 : Int) (v11 : Int) (v12 : Int) (v13 : List Int) (v14 : List (Int × (List Int))) (v15 : List Int) (v16 : List Int) (v17 : List Int) (v18 : List Int) (v19 : List Int) (v20 : Int) (v21 : Int) (v22 : Int) (v23 : Int) (v24 : Int) (v25 : Int) (v26 : Int) (v27 : Int) (v28 : Int) (v29 : Int) (v30 : List Int) (v31 : List (Int × (List Int))) (v32 : List Int) (v33 : List Int) (v34 : List Int) (v35 : List Int) (v36 : List Int) (v37 : List Int) (v38 : List Int) : Option ((Int × Int × Int × (List Int) × (List (Int × (List Int))) × (List Int) × Int × (List Int) × Int × Int × Int × (List Int) × Int × Int × Int × (List Int)) × Bool) := Lw spec_FmOf.c (finish spec_FmOf.c (fiOf (GT tab) Tryz.f111 spec_FmOf.ms) (decRes tab spec_FmOf.rs)) ((loops spec_FmOf.c.cuts 1000 spec_FmOf.b []).getD 2 []) { slots := [.vs false 5 v0, .int .i64 v1, .undef, .undef, .ptr 0 0, .undef, .undef, .sl 7 0, .undef, .undef, .ptr 8 0, .sl 15 0, .sl 16 0, .undef, .sl 17 0, .int .i64 v2, .undef, .undef, .undef, .undef, .undef, .undef, .undef, .undef, .undef, .undef, .undef, .undef, .undef, .undef, .undef, .undef, .undef, .undef, .undef, .undef, .undef, .undef, .undef, .undef, .undef, .undef, .undef, .undef, .undef, .undef, .undef, .undef, .undef, .undef, .undef, .undef, .undef, .undef, .undef, .undef, .undef, .undef, .undef, .undef, .undef, .undef, .undef, .undef, .undef, .undef, .undef, .undef, .undef, .undef, .undef, .undef, .undef, .undef, .undef, .undef, .undef, .undef, .undef, .undef, .undef, .undef, .undef, .undef, .undef, .undef, .undef, .undef, .undef, .undef, .undef, .undef, .undef, .undef, .undef, .undef, .undef, .undef, .undef, .undef, .undef, .undef, .undef, .undef, .undef, .undef, .undef, .undef, .undef, .undef, .undef, .undef, .undef, .undef, .undef, .undef, .undef, .undef, .undef, .undef, .undef], loc := locOf [.box 34 [.int .i64 v3, .int .i64 v4, .int .i64 v5, .sl 1 0, .sl 2 0, .sl 3 0, .int .i64 v6, .sl 4 0, .int .i64 v7, .int .i64 v8, .int .i64 v9, .sl 5 0, .int .i64 v10, .int .i64 v11, .int .i64 v12, .sl 6 0], .row 0 true 3 v13, .row 0 true 30 v14, .row 0 true 3 v15, .row 0 true 126 v16, .row 0 true 126 v17, .row 0 true 126 v18, .row 0 true 3 v19, .box 34 [.int .i64 v20, .int .i64 v21, .int .i64 v22, .sl 9 0, .sl 10 0, .sl 11 0, .int .i64 v23, .sl 12 0, .int .i64 v24, .int .i64 v25, .int .i64 v26, .sl 13 0, .int .i64 v27, .int .i64 v28, .int .i64 v29, .sl 14 0], .row 0 true 3 v30, .row 0 true 30 v31, .row 0 true 3 v32, .row 0 true 126 v33, .row 0 true 126 v34, .row 0 true 126 v35, .row 0 true 3 v36, .row 0 true 3 v37, .row 0 true 3 v38], nx := 18 }
theorem spec_FmOf.eq (x0 : List Int) (x1 : Int) : spec_FmOf x0 x1 =
    (spec_TextOk x0).bind fun y1 =>
    bif !y1 then
      some (((0 : Int), (0 : Int), (0 : Int), ([] : List Int), ([] : List (Int × (List Int))), ([] : List Int), (0 : Int), ([] : List Int), (0 : Int), (0 : Int), (0 : Int), ([] : List Int), (0 : Int), (0 : Int), (0 : Int), ([] : List Int)), false)
    else
      (spec_l09Rate x1).bind fun y2 =>
      bif !y2 then
        some (((0 : Int), (0 : Int), (0 : Int), ([] : List Int), ([] : List (Int × (List Int))), ([] : List Int), (0 : Int), ([] : List Int), (0 : Int), (0 : Int), (0 : Int), ([] : List Int), (0 : Int), (0 : Int), (0 : Int), ([] : List Int)), false)
      else
        spec_FmOf_l0 x0 x1 (0 : Int) (0 : Int) (0 : Int) (0 : Int) (0 : Int) (0 : Int) (0 : Int) (0 : Int) (0 : Int) (0 : Int) ([] : List Int) ([] : List (Int × (List Int))) ([] : List Int) ([] : List Int) ([] : List Int) ([] : List Int) := by kernel_rfl
theorem spec_FmOf_l0.eq (v0 : List Int) (v1 : Int) (v2 : Int) (v3 : Int) (v4 : Int) (v5 : Int) (v6 : Int) (v7 : Int) (v8 : Int) (v9 : Int) (v10 : Int) (v11 : Int) (v12 : List Int) (v13 : List (Int × (List Int))) (v14 : List Int) (v15 : List Int) (v16 : List Int) (v17 : List Int) : spec_FmOf_l0 v0 v1 v2 v3 v4 v5 v6 v7 v8 v9 v10 v11 v12 v13 v14 v15 v16 v17 =
    (spec_SuffixRows v0).bind fun y1 =>
    (spec_Inverse y1).bind fun y2 =>
    (spec_BwtOf v0).bind fun y3 =>
    (spec_Counts y3).bind fun y4 =>
    (spec_WaveOf y3).bind fun y5 =>
    spec_FmOf_l1 v0 v1 (0 : Int) v2 v3 v4 v5 v6 v7 v8 v9 v10 v11 v12 v13 v14 v15 v16 v17 y1 y2.1 (v0.length : Int) v1 y5.1.1 (0 : Int) (0 : Int) (0 : Int) (0 : Int) (0 : Int) (0 : Int) (0 : Int) y5.1.2.1 y5.1.2.2 y4 ([] : List Int) ([] : List Int) ([] : List Int) ([] : List Int) ([] : List Int) := (Lw_eq tysOk (getG_con (spec_FmOf.gok _)) _ _).trans (by kernel_rfl)
theorem spec_FmOf_l1.eq (v0 : List Int) (v1 : Int) (v2 : Int) (v3 : Int) (v4 : Int) (v5 : Int) (v6 : Int) (v7 : Int) (v8 : Int) (v9 : Int) (v10 : Int) (v11 : Int) (v12 : Int) (v13 : List Int) (v14 : List (Int × (List Int))) (v15 : List Int) (v16 : List Int) (v17 : List Int) (v18 : List Int) (v19 : List Int) (v20 : List Int) (v21 : Int) (v22 : Int) (v23 : Int) (v24 : Int) (v25 : Int) (v26 : Int) (v27 : Int) (v28 : Int) (v29 : Int) (v30 : Int) (v31 : List Int) (v32 : List (Int × (List Int))) (v33 : List Int) (v34 : List Int) (v35 : List Int) (v36 : List Int) (v37 : List Int) (v38 : List Int) : spec_FmOf_l1 v0 v1 v2 v3 v4 v5 v6 v7 v8 v9 v10 v11 v12 v13 v14 v15 v16 v17 v18 v19 v20 v21 v22 v23 v24 v25 v26 v27 v28 v29 v30 v31 v32 v33 v34 v35 v36 v37 v38 =
    bif decide (v2 < (v19.length : Int)) then
      (at? v19 v2).bind fun y1 =>
      v19[v2.toNat]?.bind fun y2 =>
      bif decide (v1 = (0 : Int)) then
        none
      else
        (spec_l01Bool (y2.tmod v1 == (0 : Int))).bind fun y3 =>
        bif decide ((v37.length + ([y3] : List Int).length) * 8 ≤ 140737488355328) then
          (at? v19 v2).bind fun y4 =>
          v19[v2.toNat]?.bind fun y5 =>
          bif decide (v1 = (0 : Int)) then
            none
          else
            bif y5.tmod v1 == (0 : Int) then
              (at? v19 v2).bind fun y6 =>
              v19[v2.toNat]?.bind fun y7 =>
              bif decide (v1 = (0 : Int)) then
                none
              else
                bif decide ((v38.length + ([IntKind.i64.wrap (y7.tdiv v1)] : List Int).length) * 8 ≤ 140737488355328) then
                  spec_FmOf_l1 v0 v1 (IntKind.i64.wrap (v2 + (1 : Int))) v3 v4 v5 v6 v7 v8 v9 v10 v11 v12 v13 v14 v15 v16 v17 v18 v19 v20 v21 v22 v23 v24 v25 v26 v27 v28 v29 v30 v31 v32 v33 v34 v35 v36 (v37 ++ ([y3] : List Int)) (v38 ++ ([IntKind.i64.wrap (y7.tdiv v1)] : List Int))
                else
                  none
            else
              spec_FmOf_l1 v0 v1 (IntKind.i64.wrap (v2 + (1 : Int))) v3 v4 v5 v6 v7 v8 v9 v10 v11 v12 v13 v14 v15 v16 v17 v18 v19 v20 v21 v22 v23 v24 v25 v26 v27 v28 v29 v30 v31 v32 v33 v34 v35 v36 (v37 ++ ([y3] : List Int)) v38
        else
          none
    else
      spec_FmOf_l2 v0 v1 (0 : Int) v3 v4 v5 v6 v7 v8 v9 v10 v11 v12 v13 v14 v15 v16 v17 v18 v20 v21 v22 v23 v24 v25 v26 v27 v28 v29 v30 v31 v32 v33 v34 v35 v36 v37 v38 ([] : List Int) := (Lw_eq tysOk (getG_con (spec_FmOf.gok _)) _ _).trans (by kernel_rfl)
theorem spec_FmOf_l2.eq (v0 : List Int) (v1 : Int) (v2 : Int) (v3 : Int) (v4 : Int) (v5 : Int) (v6 : Int) (v7 : Int) (v8 : Int) (v9 : Int) (v10 : Int) (v11 : Int) (v12 : Int) (v13 : List Int) (v14 : List (Int × (List Int))) (v15 : List Int) (v16 : List Int) (v17 : List Int) (v18 : List Int) (v19 : List Int) (v20 : Int) (v21 : Int) (v22 : Int) (v23 : Int) (v24 : Int) (v25 : Int) (v26 : Int) (v27 : Int) (v28 : Int) (v29 : Int) (v30 : List Int) (v31 : List (Int × (List Int))) (v32 : List Int) (v33 : List Int) (v34 : List Int) (v35 : List Int) (v36 : List Int) (v37 : List Int) (v38 : List Int) : spec_FmOf_l2 v0 v1 v2 v3 v4 v5 v6 v7 v8 v9 v10 v11 v12 v13 v14 v15 v16 v17 v18 v19 v20 v21 v22 v23 v24 v25 v26 v27 v28 v29 v30 v31 v32 v33 v34 v35 v36 v37 v38 =
    bif decide (v2 ≤ (v0.length : Int)) then
      (at? v19 v2).bind fun y1 =>
      v19[v2.toNat]?.bind fun y2 =>
      bif decide ((v38.length + ([y2] : List Int).length) * 8 ≤ 140737488355328) then
        spec_FmOf_l2 v0 v1 (IntKind.i64.wrap (v2 + v1)) v3 v4 v5 v6 v7 v8 v9 v10 v11 v12 v13 v14 v15 v16 v17 v18 v19 v20 v21 v22 v23 v24 v25 v26 v27 v28 v29 v30 v31 v32 v33 v34 v35 v36 v37 (v38 ++ ([y2] : List Int))
      else
        none
    else
      (spec_BitsOf v36).bind fun y3 =>
      (spec_WidthOf (v0.length : Int)).bind fun y4 =>
      (spec_PackOf v37 y4).bind fun y5 =>
      (spec_WidthOf (v0.length : Int)).bind fun y6 =>
      (spec_PackOf v38 y6).bind fun y7 =>
      some ((v20, v21, v22, v30, v31, v32, y3.1.1, y3.1.2, y5.1.1, y5.1.2.1, y5.1.2.2.1, y5.1.2.2.2, y7.1.1, y7.1.2.1, y7.1.2.2.1, y7.1.2.2.2), true) := (Lw_eq tysOk (getG_con (spec_FmOf.gok _)) _ _).trans (by kernel_rfl)

/-! ### laws_szIntS: loop.example/g00688/laws.szIntS -/
def laws_szIntS.ms : List Mode := [.lend, .lend]
def laws_szIntS.as : List VSh := [.one (.b (.b (.b (.b (.sl false false 3))))), .one (.b (.b (.b (.b (.int .i64)))))]
def laws_szIntS.rs : RSh := ⟨[.one (.b (.b (.b (.b (.int .i64)))))], [none, none]⟩
noncomputable def laws_szIntS.gs (δ : Type) : List (Nat × Callee (GT tab) δ) := []
theorem laws_szIntS.gok (δ : Type) : AllCon Tryz.prog tab (laws_szIntS.gs δ) := .nil
noncomputable def laws_szIntS.c : Ctx (GT tab) (KT tab) (ResT tab laws_szIntS.rs) := { X := XT tab, ty := tyOf tys, inner := fun _ => true, keep := keepOf 0 laws_szIntS.ms, cuts := [], live := liveOf [], G := getG (laws_szIntS.gs _) }
noncomputable def laws_szIntS.b : Code := bodyOf Tryz.f77
noncomputable def laws_szIntS (x0 : List Int) (x1 : Int) : Option (Int) := callW laws_szIntS.c (fiOf (GT tab) Tryz.f77 laws_szIntS.ms) laws_szIntS.b (decRes tab laws_szIntS.rs) (encArgs tab laws_szIntS.as (x0, x1))
theorem laws_szIntS.fok : FnOk Tryz.prog 77 Tryz.f77 laws_szIntS.ms laws_szIntS.b := ⟨Tryz.func77, by kernel_rfl, by kernel_rfl⟩
noncomputable def laws_szIntS.fn : Args tab laws_szIntS.as → Option (ResT tab laws_szIntS.rs) := fun x => laws_szIntS x.1 x.2
theorem laws_szIntS.con {δ : Type} : Con Tryz.prog (KT tab) 77 (calleeS (β := δ) tab laws_szIntS.ms laws_szIntS.as laws_szIntS.rs laws_szIntS.fn) := con_shape (c := laws_szIntS.c) mixed tysOk (getG_con (laws_szIntS.gok _)) laws_szIntS.fok rfl rfl (fun _ => rfl)
theorem laws_szIntS.eq (x0 : List Int) (x1 : Int) : laws_szIntS x0 x1 =
    bif decide (IntKind.i64.wrap (x1 - (x0.length : Int)) < (0 : Int)) then
      some (-1 : Int)
    else
      some (IntKind.i64.wrap (x1 - (x0.length : Int))) := by kernel_rfl

/-! ### laws_szUint64S: loop.example/g00688/laws.szUint64S -/
def laws_szUint64S.ms : List Mode := [.lend, .lend]
def laws_szUint64S.as : List VSh := [.one (.b (.b (.b (.b (.sl false false 126))))), .one (.b (.b (.b (.b (.int .i64)))))]
def laws_szUint64S.rs : RSh := ⟨[.one (.b (.b (.b (.b (.int .i64)))))], [none, none]⟩
noncomputable def laws_szUint64S.gs (δ : Type) : List (Nat × Callee (GT tab) δ) := []
theorem laws_szUint64S.gok (δ : Type) : AllCon Tryz.prog tab (laws_szUint64S.gs δ) := .nil
noncomputable def laws_szUint64S.c : Ctx (GT tab) (KT tab) (ResT tab laws_szUint64S.rs) := { X := XT tab, ty := tyOf tys, inner := fun _ => true, keep := keepOf 0 laws_szUint64S.ms, cuts := [], live := liveOf [], G := getG (laws_szUint64S.gs _) }
noncomputable def laws_szUint64S.b : Code := bodyOf Tryz.f136
noncomputable def laws_szUint64S (x0 : List Int) (x1 : Int) : Option (Int) := callW laws_szUint64S.c (fiOf (GT tab) Tryz.f136 laws_szUint64S.ms) laws_szUint64S.b (decRes tab laws_szUint64S.rs) (encArgs tab laws_szUint64S.as (x0, x1))
theorem laws_szUint64S.fok : FnOk Tryz.prog 136 Tryz.f136 laws_szUint64S.ms laws_szUint64S.b := ⟨Tryz.func136, by kernel_rfl, by kernel_rfl⟩
noncomputable def laws_szUint64S.fn : Args tab laws_szUint64S.as → Option (ResT tab laws_szUint64S.rs) := fun x => laws_szUint64S x.1 x.2
theorem laws_szUint64S.con {δ : Type} : Con Tryz.prog (KT tab) 136 (calleeS (β := δ) tab laws_szUint64S.ms laws_szUint64S.as laws_szUint64S.rs laws_szUint64S.fn) := con_shape (c := laws_szUint64S.c) mixed tysOk (getG_con (laws_szUint64S.gok _)) laws_szUint64S.fok rfl rfl (fun _ => rfl)
theorem laws_szUint64S.eq (x0 : List Int) (x1 : Int) : laws_szUint64S x0 x1 =
    bif decide (IntKind.i64.wrap (x1 - (x0.length : Int)) < (0 : Int)) then
      some (-1 : Int)
    else
      some (IntKind.i64.wrap (x1 - (x0.length : Int))) := by kernel_rfl

/-! ### laws_szBits: loop.example/g00688/laws.szBits -/
def laws_szBits.ms : List Mode := [.lend, .lend]
def laws_szBits.as : List VSh := [.agg [.int .i64, .sl false false 126], .one (.b (.b (.b (.b (.int .i64)))))]
def laws_szBits.rs : RSh := ⟨[.one (.b (.b (.b (.b (.int .i64)))))], [none, none]⟩
noncomputable def laws_szBits.gs (δ : Type) : List (Nat × Callee (GT tab) δ) := [(136, calleeS tab laws_szUint64S.ms laws_szUint64S.as laws_szUint64S.rs laws_szUint64S.fn)]
theorem laws_szBits.gok (δ : Type) : AllCon Tryz.prog tab (laws_szBits.gs δ) := .cons laws_szUint64S.con (.nil)
noncomputable def laws_szBits.c : Ctx (GT tab) (KT tab) (ResT tab laws_szBits.rs) := { X := XT tab, ty := tyOf tys, inner := fun _ => true, keep := keepOf 0 laws_szBits.ms, cuts := [], live := liveOf [], G := getG (laws_szBits.gs _) }
noncomputable def laws_szBits.b : Code := bodyOf Tryz.f78
noncomputable def laws_szBits (x0 : Int × (List Int)) (x1 : Int) : Option (Int) := callW laws_szBits.c (fiOf (GT tab) Tryz.f78 laws_szBits.ms) laws_szBits.b (decRes tab laws_szBits.rs) (encArgs tab laws_szBits.as (x0, x1))
theorem laws_szBits.fok : FnOk Tryz.prog 78 Tryz.f78 laws_szBits.ms laws_szBits.b := ⟨Tryz.func78, by kernel_rfl, by kernel_rfl⟩
noncomputable def laws_szBits.fn : Args tab laws_szBits.as → Option (ResT tab laws_szBits.rs) := fun x => laws_szBits x.1 x.2
theorem laws_szBits.con {δ : Type} : Con Tryz.prog (KT tab) 78 (calleeS (β := δ) tab laws_szBits.ms laws_szBits.as laws_szBits.rs laws_szBits.fn) := con_shape (c := laws_szBits.c) mixed tysOk (getG_con (laws_szBits.gok _)) laws_szBits.fok rfl rfl (fun _ => rfl)
theorem laws_szBits.eq (x0 : Int × (List Int)) (x1 : Int) : laws_szBits x0 x1 =
    (laws_szUint64S x0.2 x1).bind fun y1 =>
    bif decide (y1 < (0 : Int)) then
      some (-1 : Int)
    else
      some y1 := by kernel_rfl

/-! ### laws_szBitsS: loop.example/g00688/laws.szBitsS -/
def laws_szBitsS.ms : List Mode := [.lend, .lend]
def laws_szBitsS.as : List VSh := [.one (.b (.b (.b (.b (.sl false false 49))))), .one (.b (.b (.b (.b (.int .i64)))))]
def laws_szBitsS.rs : RSh := ⟨[.one (.b (.b (.b (.b (.int .i64)))))], [none, none]⟩
noncomputable def laws_szBitsS.gs (δ : Type) : List (Nat × Callee (GT tab) δ) := [(78, calleeS tab laws_szBits.ms laws_szBits.as laws_szBits.rs laws_szBits.fn)]
theorem laws_szBitsS.gok (δ : Type) : AllCon Tryz.prog tab (laws_szBitsS.gs δ) := .cons laws_szBits.con (.nil)
noncomputable def laws_szBitsS.c : Ctx (GT tab) (KT tab) (ResT tab laws_szBitsS.rs) := { X := XT tab, ty := tyOf tys, inner := fun _ => true, keep := keepOf 0 laws_szBitsS.ms, cuts := [], live := liveOf [(5, [0, 1, 5])], G := getG (laws_szBitsS.gs _) }
noncomputable def laws_szBitsS.b : Code := bodyOf Tryz.f135
noncomputable def laws_szBitsS (x0 : List (Int × (List Int))) (x1 : Int) : Option (Int) := callW laws_szBitsS.c (fiOf (GT tab) Tryz.f135 laws_szBitsS.ms) laws_szBitsS.b (decRes tab laws_szBitsS.rs) (encArgs tab laws_szBitsS.as (x0, x1))
theorem laws_szBitsS.fok : FnOk Tryz.prog 135 Tryz.f135 laws_szBitsS.ms laws_szBitsS.b := ⟨Tryz.func135, by kernel_rfl, by kernel_rfl⟩
noncomputable def laws_szBitsS.fn : Args tab laws_szBitsS.as → Option (ResT tab laws_szBitsS.rs) := fun x => laws_szBitsS x.1 x.2
theorem laws_szBitsS.con {δ : Type} : Con Tryz.prog (KT tab) 135 (calleeS (β := δ) tab laws_szBitsS.ms laws_szBitsS.as laws_szBitsS.rs laws_szBitsS.fn) := con_shape (c := laws_szBitsS.c) mixed tysOk (getG_con (laws_szBitsS.gok _)) laws_szBitsS.fok rfl rfl (fun _ => rfl)
noncomputable def laws_szBitsS_l0 (v0 : List (Int × (List Int))) (v1 : Int) (v2 : Int) : Option (Int) := Lw laws_szBitsS.c (finish laws_szBitsS.c (fiOf (GT tab) Tryz.f135 laws_szBitsS.ms) (decRes tab laws_szBitsS.rs)) ((loops laws_szBitsS.c.cuts 1000 laws_szBitsS.b []).getD 0 []) { slots := [.vs false 49 v0, .int .i64 v1, .undef, .undef, .undef, .int .i64 v2, .undef, .undef, .undef, .undef, .undef, .undef, .undef, .undef, .undef, .undef, .undef, .undef, .undef, .undef, .undef, .undef, .undef, .undef, .undef, .undef, .undef], loc := locOf [], nx := 0 }
theorem laws_szBitsS.eq (x0 : List (Int × (List Int))) (x1 : Int) : laws_szBitsS x0 x1 =
    bif decide (IntKind.i64.wrap (x1 - (x0.length : Int)) < (0 : Int)) then
      some (-1 : Int)
    else
      laws_szBitsS_l0 x0 (IntKind.i64.wrap (x1 - (x0.length : Int))) (0 : Int) := by kernel_rfl
theorem laws_szBitsS_l0.eq (v0 : List (Int × (List Int))) (v1 : Int) (v2 : Int) : laws_szBitsS_l0 v0 v1 v2 =
    bif decide (v2 < (v0.length : Int)) then
      (at? v0 v2).bind fun y1 =>
      (laws_szBits (y1.1, y1.2) v1).bind fun y2 =>
      bif decide (y2 < (0 : Int)) then
        some (-1 : Int)
      else
        laws_szBitsS_l0 v0 y2 (IntKind.i64.wrap (v2 + (1 : Int)))
    else
      some v1 := (Lw_eq tysOk (getG_con (laws_szBitsS.gok _)) _ _).trans (by kernel_rfl)

/-! ### laws_szWave: loop.example/g00688/laws.szWave -/
def laws_szWave.ms : List Mode := [.lend, .lend]
def laws_szWave.as : List VSh := [.agg [.int .i64, .sl false false 3, .sl false false 49], .one (.b (.b (.b (.b (.int .i64)))))]
def laws_szWave.rs : RSh := ⟨[.one (.b (.b (.b (.b (.int .i64)))))], [none, none]⟩
noncomputable def laws_szWave.gs (δ : Type) : List (Nat × Callee (GT tab) δ) := [(77, calleeS tab laws_szIntS.ms laws_szIntS.as laws_szIntS.rs laws_szIntS.fn), (135, calleeS tab laws_szBitsS.ms laws_szBitsS.as laws_szBitsS.rs laws_szBitsS.fn)]
theorem laws_szWave.gok (δ : Type) : AllCon Tryz.prog tab (laws_szWave.gs δ) := .cons laws_szIntS.con (.cons laws_szBitsS.con (.nil))
noncomputable def laws_szWave.c : Ctx (GT tab) (KT tab) (ResT tab laws_szWave.rs) := { X := XT tab, ty := tyOf tys, inner := fun _ => true, keep := keepOf 0 laws_szWave.ms, cuts := [], live := liveOf [], G := getG (laws_szWave.gs _) }
noncomputable def laws_szWave.b : Code := bodyOf Tryz.f76
noncomputable def laws_szWave (x0 : Int × (List Int) × (List (Int × (List Int)))) (x1 : Int) : Option (Int) := callW laws_szWave.c (fiOf (GT tab) Tryz.f76 laws_szWave.ms) laws_szWave.b (decRes tab laws_szWave.rs) (encArgs tab laws_szWave.as (x0, x1))
theorem laws_szWave.fok : FnOk Tryz.prog 76 Tryz.f76 laws_szWave.ms laws_szWave.b := ⟨Tryz.func76, by kernel_rfl, by kernel_rfl⟩
noncomputable def laws_szWave.fn : Args tab laws_szWave.as → Option (ResT tab laws_szWave.rs) := fun x => laws_szWave x.1 x.2
theorem laws_szWave.con {δ : Type} : Con Tryz.prog (KT tab) 76 (calleeS (β := δ) tab laws_szWave.ms laws_szWave.as laws_szWave.rs laws_szWave.fn) := con_shape (c := laws_szWave.c) mixed tysOk (getG_con (laws_szWave.gok _)) laws_szWave.fok rfl rfl (fun _ => rfl)
theorem laws_szWave.eq (x0 : Int × (List Int) × (List (Int × (List Int)))) (x1 : Int) : laws_szWave x0 x1 =
    (laws_szIntS x0.2.1 x1).bind fun y1 =>
    bif decide (y1 < (0 : Int)) then
      some (-1 : Int)
    else
      (laws_szBitsS x0.2.2 y1).bind fun y2 =>
      bif decide (y2 < (0 : Int)) then
        some (-1 : Int)
      else
        some y2 := by kernel_rfl

/-! ### laws_szPacked: loop.example/g00688/laws.szPacked -/
def laws_szPacked.ms : List Mode := [.lend, .lend]
def laws_szPacked.as : List VSh := [.agg [.int .i64, .int .i64, .int .i64, .sl false false 126], .one (.b (.b (.b (.b (.int .i64)))))]
def laws_szPacked.rs : RSh := ⟨[.one (.b (.b (.b (.b (.int .i64)))))], [none, none]⟩
noncomputable def laws_szPacked.gs (δ : Type) : List (Nat × Callee (GT tab) δ) := [(78, calleeS tab laws_szBits.ms laws_szBits.as laws_szBits.rs laws_szBits.fn)]
theorem laws_szPacked.gok (δ : Type) : AllCon Tryz.prog tab (laws_szPacked.gs δ) := .cons laws_szBits.con (.nil)
noncomputable def laws_szPacked.c : Ctx (GT tab) (KT tab) (ResT tab laws_szPacked.rs) := { X := XT tab, ty := tyOf tys, inner := fun _ => true, keep := keepOf 0 laws_szPacked.ms, cuts := [], live := liveOf [], G := getG (laws_szPacked.gs _) }
noncomputable def laws_szPacked.b : Code := bodyOf Tryz.f79
noncomputable def laws_szPacked (x0 : Int × Int × Int × (List Int)) (x1 : Int) : Option (Int) := callW laws_szPacked.c (fiOf (GT tab) Tryz.f79 laws_szPacked.ms) laws_szPacked.b (decRes tab laws_szPacked.rs) (encArgs tab laws_szPacked.as (x0, x1))
theorem laws_szPacked.fok : FnOk Tryz.prog 79 Tryz.f79 laws_szPacked.ms laws_szPacked.b := ⟨Tryz.func79, by kernel_rfl, by kernel_rfl⟩
noncomputable def laws_szPacked.fn : Args tab laws_szPacked.as → Option (ResT tab laws_szPacked.rs) := fun x => laws_szPacked x.1 x.2
theorem laws_szPacked.con {δ : Type} : Con Tryz.prog (KT tab) 79 (calleeS (β := δ) tab laws_szPacked.ms laws_szPacked.as laws_szPacked.rs laws_szPacked.fn) := con_shape (c := laws_szPacked.c) mixed tysOk (getG_con (laws_szPacked.gok _)) laws_szPacked.fok rfl rfl (fun _ => rfl)
theorem laws_szPacked.eq (x0 : Int × Int × Int × (List Int)) (x1 : Int) : laws_szPacked x0 x1 =
    (laws_szBits (x0.2.2.1, x0.2.2.2) x1).bind fun y1 =>
    bif decide (y1 < (0 : Int)) then
      some (-1 : Int)
    else
      some y1 := by kernel_rfl

/-! ### laws_szFm: loop.example/g00688/laws.szFm -/
def laws_szFm.ms : List Mode := [.lend, .lend]
def laws_szFm.as : List VSh := [.agg [.int .i64, .int .i64, .int .i64, .sl false false 3, .sl false false 49, .sl false false 3, .int .i64, .sl false false 126, .int .i64, .int .i64, .int .i64, .sl false false 126, .int .i64, .int .i64, .int .i64, .sl false false 126], .one (.b (.b (.b (.b (.int .i64)))))]
def laws_szFm.rs : RSh := ⟨[.one (.b (.b (.b (.b (.int .i64)))))], [none, none]⟩
noncomputable def laws_szFm.gs (δ : Type) : List (Nat × Callee (GT tab) δ) := [(76, calleeS tab laws_szWave.ms laws_szWave.as laws_szWave.rs laws_szWave.fn), (77, calleeS tab laws_szIntS.ms laws_szIntS.as laws_szIntS.rs laws_szIntS.fn), (78, calleeS tab laws_szBits.ms laws_szBits.as laws_szBits.rs laws_szBits.fn), (79, calleeS tab laws_szPacked.ms laws_szPacked.as laws_szPacked.rs laws_szPacked.fn)]
theorem laws_szFm.gok (δ : Type) : AllCon Tryz.prog tab (laws_szFm.gs δ) := .cons laws_szWave.con (.cons laws_szIntS.con (.cons laws_szBits.con (.cons laws_szPacked.con (.nil))))
noncomputable def laws_szFm.c : Ctx (GT tab) (KT tab) (ResT tab laws_szFm.rs) := { X := XT tab, ty := tyOf tys, inner := fun _ => true, keep := keepOf 0 laws_szFm.ms, cuts := [], live := liveOf [], G := getG (laws_szFm.gs _) }
noncomputable def laws_szFm.b : Code := bodyOf Tryz.f30
noncomputable def laws_szFm (x0 : Int × Int × Int × (List Int) × (List (Int × (List Int))) × (List Int) × Int × (List Int) × Int × Int × Int × (List Int) × Int × Int × Int × (List Int)) (x1 : Int) : Option (Int) := callW laws_szFm.c (fiOf (GT tab) Tryz.f30 laws_szFm.ms) laws_szFm.b (decRes tab laws_szFm.rs) (encArgs tab laws_szFm.as (x0, x1))
theorem laws_szFm.fok : FnOk Tryz.prog 30 Tryz.f30 laws_szFm.ms laws_szFm.b := ⟨Tryz.func30, by kernel_rfl, by kernel_rfl⟩
noncomputable def laws_szFm.fn : Args tab laws_szFm.as → Option (ResT tab laws_szFm.rs) := fun x => laws_szFm x.1 x.2
theorem laws_szFm.con {δ : Type} : Con Tryz.prog (KT tab) 30 (calleeS (β := δ) tab laws_szFm.ms laws_szFm.as laws_szFm.rs laws_szFm.fn) := con_shape (c := laws_szFm.c) mixed tysOk (getG_con (laws_szFm.gok _)) laws_szFm.fok rfl rfl (fun _ => rfl)
theorem laws_szFm.eq (x0 : Int × Int × Int × (List Int) × (List (Int × (List Int))) × (List Int) × Int × (List Int) × Int × Int × Int × (List Int) × Int × Int × Int × (List Int)) (x1 : Int) : laws_szFm x0 x1 =
    (laws_szWave (x0.2.2.1, x0.2.2.2.1, x0.2.2.2.2.1) x1).bind fun y1 =>
    bif decide (y1 < (0 : Int)) then
      some (-1 : Int)
    else
      (laws_szIntS x0.2.2.2.2.2.1 y1).bind fun y2 =>
      bif decide (y2 < (0 : Int)) then
        some (-1 : Int)
      else
        (laws_szBits (x0.2.2.2.2.2.2.1, x0.2.2.2.2.2.2.2.1) y2).bind fun y3 =>
        bif decide (y3 < (0 : Int)) then
          some (-1 : Int)
        else
          (laws_szPacked (x0.2.2.2.2.2.2.2.2.1, x0.2.2.2.2.2.2.2.2.2.1, x0.2.2.2.2.2.2.2.2.2.2.1, x0.2.2.2.2.2.2.2.2.2.2.2.1) y3).bind fun y4 =>
          bif decide (y4 < (0 : Int)) then
            some (-1 : Int)
          else
            (laws_szPacked (x0.2.2.2.2.2.2.2.2.2.2.2.2.1, x0.2.2.2.2.2.2.2.2.2.2.2.2.2.1, x0.2.2.2.2.2.2.2.2.2.2.2.2.2.2.1, x0.2.2.2.2.2.2.2.2.2.2.2.2.2.2.2) y4).bind fun y5 =>
            bif decide (y5 < (0 : Int)) then
              some (-1 : Int)
            else
              some y5 := by kernel_rfl

/-! ### laws_toIntS: loop.example/g00688/laws.toIntS -/
def laws_toIntS.ms : List Mode := [.lend]
def laws_toIntS.as : List VSh := [.one (.b (.b (.b (.b (.sl false false 3)))))]
def laws_toIntS.rs : RSh := ⟨[.one (.b (.b (.b (.b (.sl true true 3)))))], [none]⟩
noncomputable def laws_toIntS.gs (δ : Type) : List (Nat × Callee (GT tab) δ) := []
theorem laws_toIntS.gok (δ : Type) : AllCon Tryz.prog tab (laws_toIntS.gs δ) := .nil
noncomputable def laws_toIntS.c : Ctx (GT tab) (KT tab) (ResT tab laws_toIntS.rs) := { X := XT tab, ty := tyOf tys, inner := fun _ => true, keep := keepOf 0 laws_toIntS.ms, cuts := [], live := liveOf [(3, [0, 3, 4])], G := getG (laws_toIntS.gs _) }
noncomputable def laws_toIntS.b : Code := bodyOf Tryz.f83
noncomputable def laws_toIntS (x0 : List Int) : Option (List Int) := callW laws_toIntS.c (fiOf (GT tab) Tryz.f83 laws_toIntS.ms) laws_toIntS.b (decRes tab laws_toIntS.rs) (encArgs tab laws_toIntS.as x0)
theorem laws_toIntS.fok : FnOk Tryz.prog 83 Tryz.f83 laws_toIntS.ms laws_toIntS.b := ⟨Tryz.func83, by kernel_rfl, by kernel_rfl⟩
noncomputable def laws_toIntS.fn : Args tab laws_toIntS.as → Option (ResT tab laws_toIntS.rs) := fun x => laws_toIntS x
theorem laws_toIntS.con {δ : Type} : Con Tryz.prog (KT tab) 83 (calleeS (β := δ) tab laws_toIntS.ms laws_toIntS.as laws_toIntS.rs laws_toIntS.fn) := con_shape (c := laws_toIntS.c) mixed tysOk (getG_con (laws_toIntS.gok _)) laws_toIntS.fok rfl rfl (fun _ => rfl)
noncomputable def laws_toIntS_l0 (v0 : List Int) (v1 : Int) (v2 : List Int) : Option (List Int) := Lw laws_toIntS.c (finish laws_toIntS.c (fiOf (GT tab) Tryz.f83 laws_toIntS.ms) (decRes tab laws_toIntS.rs)) ((loops laws_toIntS.c.cuts 1000 laws_toIntS.b []).getD 0 []) { slots := [.vs false 3 v0, .undef, .undef, .sl 0 0, .int .i64 v1, .undef, .undef, .undef, .undef, .undef, .undef, .undef, .undef, .undef, .undef, .undef, .undef, .undef, .undef, .undef, .undef, .undef], loc := locOf [.row 0 true 3 v2], nx := 1 }
theorem laws_toIntS.eq (x0 : List Int) : laws_toIntS x0 =
    bif decide ((0 : Int) ≤ (x0.length : Int)) && decide (((x0.length : Int).toNat) * 8 ≤ 140737488355328) then
      laws_toIntS_l0 x0 (0 : Int) (List.replicate ((x0.length : Int).toNat) (0 : Int))
    else
      none := by kernel_rfl
theorem laws_toIntS_l0.eq (v0 : List Int) (v1 : Int) (v2 : List Int) : laws_toIntS_l0 v0 v1 v2 =
    bif decide (v1 < (v0.length : Int)) then
      (at? v0 v1).bind fun y1 =>
      (at? v2 v1).bind fun y2 =>
      v2[v1.toNat]?.bind fun y3 =>
      laws_toIntS_l0 v0 (IntKind.i64.wrap (v1 + (1 : Int))) (v2.set v1.toNat y1)
    else
      some v2 := (Lw_eq tysOk (getG_con (laws_toIntS.gok _)) _ _).trans (by kernel_rfl)

/-! ### laws_toUint64S: loop.example/g00688/laws.toUint64S -/
def laws_toUint64S.ms : List Mode := [.lend]
def laws_toUint64S.as : List VSh := [.one (.b (.b (.b (.b (.sl false false 126)))))]
def laws_toUint64S.rs : RSh := ⟨[.one (.b (.b (.b (.b (.sl true true 126)))))], [none]⟩
noncomputable def laws_toUint64S.gs (δ : Type) : List (Nat × Callee (GT tab) δ) := []
theorem laws_toUint64S.gok (δ : Type) : AllCon Tryz.prog tab (laws_toUint64S.gs δ) := .nil
noncomputable def laws_toUint64S.c : Ctx (GT tab) (KT tab) (ResT tab laws_toUint64S.rs) := { X := XT tab, ty := tyOf tys, inner := fun _ => true, keep := keepOf 0 laws_toUint64S.ms, cuts := [], live := liveOf [(3, [0, 3, 4])], G := getG (laws_toUint64S.gs _) }
noncomputable def laws_toUint64S.b : Code := bodyOf Tryz.f139
noncomputable def laws_toUint64S (x0 : List Int) : Option (List Int) := callW laws_toUint64S.c (fiOf (GT tab) Tryz.f139 laws_toUint64S.ms) laws_toUint64S.b (decRes tab laws_toUint64S.rs) (encArgs tab laws_toUint64S.as x0)
theorem laws_toUint64S.fok : FnOk Tryz.prog 139 Tryz.f139 laws_toUint64S.ms laws_toUint64S.b := ⟨Tryz.func139, by kernel_rfl, by kernel_rfl⟩
noncomputable def laws_toUint64S.fn : Args tab laws_toUint64S.as → Option (ResT tab laws_toUint64S.rs) := fun x => laws_toUint64S x
theorem laws_toUint64S.con {δ : Type} : Con Tryz.prog (KT tab) 139 (calleeS (β := δ) tab laws_toUint64S.ms laws_toUint64S.as laws_toUint64S.rs laws_toUint64S.fn) := con_shape (c := laws_toUint64S.c) mixed tysOk (getG_con (laws_toUint64S.gok _)) laws_toUint64S.fok rfl rfl (fun _ => rfl)
noncomputable def laws_toUint64S_l0 (v0 : List Int) (v1 : Int) (v2 : List Int) : Option (List Int) := Lw laws_toUint64S.c (finish laws_toUint64S.c (fiOf (GT tab) Tryz.f139 laws_toUint64S.ms) (decRes tab laws_toUint64S.rs)) ((loops laws_toUint64S.c.cuts 1000 laws_toUint64S.b []).getD 0 []) { slots := [.vs false 126 v0, .undef, .undef, .sl 0 0, .int .i64 v1, .undef, .undef, .undef, .undef, .undef, .undef, .undef, .undef, .undef, .undef, .undef, .undef, .undef, .undef, .undef, .undef, .undef], loc := locOf [.row 0 true 126 v2], nx := 1 }
theorem laws_toUint64S.eq (x0 : List Int) : laws_toUint64S x0 =
    bif decide ((0 : Int) ≤ (x0.length : Int)) && decide (((x0.length : Int).toNat) * 8 ≤ 140737488355328) then
      laws_toUint64S_l0 x0 (0 : Int) (List.replicate ((x0.length : Int).toNat) (0 : Int))
    else
      none := by kernel_rfl
theorem laws_toUint64S_l0.eq (v0 : List Int) (v1 : Int) (v2 : List Int) : laws_toUint64S_l0 v0 v1 v2 =
    bif decide (v1 < (v0.length : Int)) then
      (at? v0 v1).bind fun y1 =>
      (at? v2 v1).bind fun y2 =>
      v2[v1.toNat]?.bind fun y3 =>
      laws_toUint64S_l0 v0 (IntKind.i64.wrap (v1 + (1 : Int))) (v2.set v1.toNat y1)
    else
      some v2 := (Lw_eq tysOk (getG_con (laws_toUint64S.gok _)) _ _).trans (by kernel_rfl)

/-! ### laws_toBits: loop.example/g00688/laws.toBits -/
def laws_toBits.ms : List Mode := [.lend]
def laws_toBits.as : List VSh := [.agg [.int .i64, .sl false false 126]]
def laws_toBits.rs : RSh := ⟨[.agg [.int .i64, .sl true true 126]], [none]⟩
noncomputable def laws_toBits.gs (δ : Type) : List (Nat × Callee (GT tab) δ) := [(139, calleeS tab laws_toUint64S.ms laws_toUint64S.as laws_toUint64S.rs laws_toUint64S.fn)]
theorem laws_toBits.gok (δ : Type) : AllCon Tryz.prog tab (laws_toBits.gs δ) := .cons laws_toUint64S.con (.nil)
noncomputable def laws_toBits.c : Ctx (GT tab) (KT tab) (ResT tab laws_toBits.rs) := { X := XT tab, ty := tyOf tys, inner := fun _ => true, keep := keepOf 0 laws_toBits.ms, cuts := [], live := liveOf [], G := getG (laws_toBits.gs _) }
noncomputable def laws_toBits.b : Code := bodyOf Tryz.f84
noncomputable def laws_toBits (x0 : Int × (List Int)) : Option (Int × (List Int)) := callW laws_toBits.c (fiOf (GT tab) Tryz.f84 laws_toBits.ms) laws_toBits.b (decRes tab laws_toBits.rs) (encArgs tab laws_toBits.as x0)
theorem laws_toBits.fok : FnOk Tryz.prog 84 Tryz.f84 laws_toBits.ms laws_toBits.b := ⟨Tryz.func84, by kernel_rfl, by kernel_rfl⟩
noncomputable def laws_toBits.fn : Args tab laws_toBits.as → Option (ResT tab laws_toBits.rs) := fun x => laws_toBits x
theorem laws_toBits.con {δ : Type} : Con Tryz.prog (KT tab) 84 (calleeS (β := δ) tab laws_toBits.ms laws_toBits.as laws_toBits.rs laws_toBits.fn) := con_shape (c := laws_toBits.c) mixed tysOk (getG_con (laws_toBits.gok _)) laws_toBits.fok rfl rfl (fun _ => rfl)
theorem laws_toBits.eq (x0 : Int × (List Int)) : laws_toBits x0 =
    (laws_toUint64S x0.2).bind fun y1 =>
    some (x0.1, y1) := by kernel_rfl

/-! ### laws_toBitsS: loop.example/g00688/laws.toBitsS -/
def laws_toBitsS.ms : List Mode := [.lend]
def laws_toBitsS.as : List VSh := [.one (.b (.b (.b (.b (.sl false false 49)))))]
def laws_toBitsS.rs : RSh := ⟨[.one (.b (.b (.b (.b (.sl true true 30)))))], [none]⟩
noncomputable def laws_toBitsS.gs (δ : Type) : List (Nat × Callee (GT tab) δ) := [(84, calleeS tab laws_toBits.ms laws_toBits.as laws_toBits.rs laws_toBits.fn)]
theorem laws_toBitsS.gok (δ : Type) : AllCon Tryz.prog tab (laws_toBitsS.gs δ) := .cons laws_toBits.con (.nil)
noncomputable def laws_toBitsS.c : Ctx (GT tab) (KT tab) (ResT tab laws_toBitsS.rs) := { X := XT tab, ty := tyOf tys, inner := fun _ => true, keep := keepOf 0 laws_toBitsS.ms, cuts := [], live := liveOf [(3, [0, 3, 4])], G := getG (laws_toBitsS.gs _) }
noncomputable def laws_toBitsS.b : Code := bodyOf Tryz.f138
noncomputable def laws_toBitsS (x0 : List (Int × (List Int))) : Option (List (Int × (List Int))) := callW laws_toBitsS.c (fiOf (GT tab) Tryz.f138 laws_toBitsS.ms) laws_toBitsS.b (decRes tab laws_toBitsS.rs) (encArgs tab laws_toBitsS.as x0)
theorem laws_toBitsS.fok : FnOk Tryz.prog 138 Tryz.f138 laws_toBitsS.ms laws_toBitsS.b := ⟨Tryz.func138, by kernel_rfl, by kernel_rfl⟩
noncomputable def laws_toBitsS.fn : Args tab laws_toBitsS.as → Option (ResT tab laws_toBitsS.rs) := fun x => laws_toBitsS x
theorem laws_toBitsS.con {δ : Type} : Con Tryz.prog (KT tab) 138 (calleeS (β := δ) tab laws_toBitsS.ms laws_toBitsS.as laws_toBitsS.rs laws_toBitsS.fn) := con_shape (c := laws_toBitsS.c) mixed tysOk (getG_con (laws_toBitsS.gok _)) laws_toBitsS.fok rfl rfl (fun _ => rfl)
noncomputable def laws_toBitsS_l0 (v0 : List (Int × (List Int))) (v1 : Int) (v2 : List (Int × (List Int))) : Option (List (Int × (List Int))) := Lw laws_toBitsS.c (finish laws_toBitsS.c (fiOf (GT tab) Tryz.f138 laws_toBitsS.ms) (decRes tab laws_toBitsS.rs)) ((loops laws_toBitsS.c.cuts 1000 laws_toBitsS.b []).getD 0 []) { slots := [.vs false 49 v0, .undef, .undef, .sl 0 0, .int .i64 v1, .undef, .undef, .undef, .undef, .undef, .undef, .undef, .undef, .undef, .undef, .undef, .undef, .undef, .undef, .undef, .undef, .undef, .undef], loc := locOf [.row 0 true 30 v2], nx := 1 }
theorem laws_toBitsS.eq (x0 : List (Int × (List Int))) : laws_toBitsS x0 =
    bif decide ((0 : Int) ≤ (x0.length : Int)) && decide (((x0.length : Int).toNat) * 32 ≤ 140737488355328) then
      laws_toBitsS_l0 x0 (0 : Int) (List.replicate ((x0.length : Int).toNat) ((0, []) : Int × (List Int)))
    else
      none := by kernel_rfl
theorem laws_toBitsS_l0.eq (v0 : List (Int × (List Int))) (v1 : Int) (v2 : List (Int × (List Int))) : laws_toBitsS_l0 v0 v1 v2 =
    bif decide (v1 < (v0.length : Int)) then
      (at? v0 v1).bind fun y1 =>
      (laws_toBits (y1.1, y1.2)).bind fun y2 =>
      (at? v2 v1).bind fun y3 =>
      v2[v1.toNat]?.bind fun y4 =>
      laws_toBitsS_l0 v0 (IntKind.i64.wrap (v1 + (1 : Int))) (v2.set v1.toNat (y2.1, y2.2))
    else
      some v2 := (Lw_eq tysOk (getG_con (laws_toBitsS.gok _)) _ _).trans (by kernel_rfl)

/-! ### laws_toWave: loop.example/g00688/laws.toWave -/
def laws_toWave.ms : List Mode := [.lend]
def laws_toWave.as : List VSh := [.agg [.int .i64, .sl false false 3, .sl false false 49]]
def laws_toWave.rs : RSh := ⟨[.agg [.int .i64, .sl true true 3, .sl true true 30]], [none]⟩
noncomputable def laws_toWave.gs (δ : Type) : List (Nat × Callee (GT tab) δ) := [(83, calleeS tab laws_toIntS.ms laws_toIntS.as laws_toIntS.rs laws_toIntS.fn), (138, calleeS tab laws_toBitsS.ms laws_toBitsS.as laws_toBitsS.rs laws_toBitsS.fn)]
theorem laws_toWave.gok (δ : Type) : AllCon Tryz.prog tab (laws_toWave.gs δ) := .cons laws_toIntS.con (.cons laws_toBitsS.con (.nil))
noncomputable def laws_toWave.c : Ctx (GT tab) (KT tab) (ResT tab laws_toWave.rs) := { X := XT tab, ty := tyOf tys, inner := fun _ => true, keep := keepOf 0 laws_toWave.ms, cuts := [], live := liveOf [], G := getG (laws_toWave.gs _) }
noncomputable def laws_toWave.b : Code := bodyOf Tryz.f82
noncomputable def laws_toWave (x0 : Int × (List Int) × (List (Int × (List Int)))) : Option (Int × (List Int) × (List (Int × (List Int)))) := callW laws_toWave.c (fiOf (GT tab) Tryz.f82 laws_toWave.ms) laws_toWave.b (decRes tab laws_toWave.rs) (encArgs tab laws_toWave.as x0)
theorem laws_toWave.fok : FnOk Tryz.prog 82 Tryz.f82 laws_toWave.ms laws_toWave.b := ⟨Tryz.func82, by kernel_rfl, by kernel_rfl⟩
noncomputable def laws_toWave.fn : Args tab laws_toWave.as → Option (ResT tab laws_toWave.rs) := fun x => laws_toWave x
theorem laws_toWave.con {δ : Type} : Con Tryz.prog (KT tab) 82 (calleeS (β := δ) tab laws_toWave.ms laws_toWave.as laws_toWave.rs laws_toWave.fn) := con_shape (c := laws_toWave.c) mixed tysOk (getG_con (laws_toWave.gok _)) laws_toWave.fok rfl rfl (fun _ => rfl)
theorem laws_toWave.eq (x0 : Int × (List Int) × (List (Int × (List Int)))) : laws_toWave x0 =
    (laws_toIntS x0.2.1).bind fun y1 =>
    (laws_toBitsS x0.2.2).bind fun y2 =>
    some (x0.1, y1, y2) := by kernel_rfl

/-! ### laws_toPacked: loop.example/g00688/laws.toPacked -/
def laws_toPacked.ms : List Mode := [.lend]
def laws_toPacked.as : List VSh := [.agg [.int .i64, .int .i64, .int .i64, .sl false false 126]]
def laws_toPacked.rs : RSh := ⟨[.agg [.int .i64, .int .i64, .int .i64, .sl true true 126]], [none]⟩
noncomputable def laws_toPacked.gs (δ : Type) : List (Nat × Callee (GT tab) δ) := [(84, calleeS tab laws_toBits.ms laws_toBits.as laws_toBits.rs laws_toBits.fn)]
theorem laws_toPacked.gok (δ : Type) : AllCon Tryz.prog tab (laws_toPacked.gs δ) := .cons laws_toBits.con (.nil)
noncomputable def laws_toPacked.c : Ctx (GT tab) (KT tab) (ResT tab laws_toPacked.rs) := { X := XT tab, ty := tyOf tys, inner := fun _ => true, keep := keepOf 0 laws_toPacked.ms, cuts := [], live := liveOf [], G := getG (laws_toPacked.gs _) }
noncomputable def laws_toPacked.b : Code := bodyOf Tryz.f85
noncomputable def laws_toPacked (x0 : Int × Int × Int × (List Int)) : Option (Int × Int × Int × (List Int)) := callW laws_toPacked.c (fiOf (GT tab) Tryz.f85 laws_toPacked.ms) laws_toPacked.b (decRes tab laws_toPacked.rs) (encArgs tab laws_toPacked.as x0)
theorem laws_toPacked.fok : FnOk Tryz.prog 85 Tryz.f85 laws_toPacked.ms laws_toPacked.b := ⟨Tryz.func85, by kernel_rfl, by kernel_rfl⟩
noncomputable def laws_toPacked.fn : Args tab laws_toPacked.as → Option (ResT tab laws_toPacked.rs) := fun x => laws_toPacked x
theorem laws_toPacked.con {δ : Type} : Con Tryz.prog (KT tab) 85 (calleeS (β := δ) tab laws_toPacked.ms laws_toPacked.as laws_toPacked.rs laws_toPacked.fn) := con_shape (c := laws_toPacked.c) mixed tysOk (getG_con (laws_toPacked.gok _)) laws_toPacked.fok rfl rfl (fun _ => rfl)
theorem laws_toPacked.eq (x0 : Int × Int × Int × (List Int)) : laws_toPacked x0 =
    (laws_toBits (x0.2.2.1, x0.2.2.2)).bind fun y1 =>
    some (x0.1, x0.2.1, y1.1, y1.2) := by kernel_rfl

/-! ### laws_toFm: loop.example/g00688/laws.toFm -/
def laws_toFm.ms : List Mode := [.lend]
def laws_toFm.as : List VSh := [.agg [.int .i64, .int .i64, .int .i64, .sl false false 3, .sl false false 49, .sl false false 3, .int .i64, .sl false false 126, .int .i64, .int .i64, .int .i64, .sl false false 126, .int .i64, .int .i64, .int .i64, .sl false false 126]]
def laws_toFm.rs : RSh := ⟨[.agg [.int .i64, .int .i64, .int .i64, .sl true true 3, .sl true true 30, .sl true true 3, .int .i64, .sl true true 126, .int .i64, .int .i64, .int .i64, .sl true true 126, .int .i64, .int .i64, .int .i64, .sl true true 126]], [none]⟩
noncomputable def laws_toFm.gs (δ : Type) : List (Nat × Callee (GT tab) δ) := [(82, calleeS tab laws_toWave.ms laws_toWave.as laws_toWave.rs laws_toWave.fn), (83, calleeS tab laws_toIntS.ms laws_toIntS.as laws_toIntS.rs laws_toIntS.fn), (84, calleeS tab laws_toBits.ms laws_toBits.as laws_toBits.rs laws_toBits.fn), (85, calleeS tab laws_toPacked.ms laws_toPacked.as laws_toPacked.rs laws_toPacked.fn)]
theorem laws_toFm.gok (δ : Type) : AllCon Tryz.prog tab (laws_toFm.gs δ) := .cons laws_toWave.con (.cons laws_toIntS.con (.cons laws_toBits.con (.cons laws_toPacked.con (.nil))))
noncomputable def laws_toFm.c : Ctx (GT tab) (KT tab) (ResT tab laws_toFm.rs) := { X := XT tab, ty := tyOf tys, inner := fun _ => true, keep := keepOf 0 laws_toFm.ms, cuts := [], live := liveOf [], G := getG (laws_toFm.gs _) }
noncomputable def laws_toFm.b : Code := bodyOf Tryz.f32
noncomputable def laws_toFm (x0 : Int × Int × Int × (List Int) × (List (Int × (List Int))) × (List Int) × Int × (List Int) × Int × Int × Int × (List Int) × Int × Int × Int × (List Int)) : Option (Int × Int × Int × (List Int) × (List (Int × (List Int))) × (List Int) × Int × (List Int) × Int × Int × Int × (List Int) × Int × Int × Int × (List Int)) := callW laws_toFm.c (fiOf (GT tab) Tryz.f32 laws_toFm.ms) laws_toFm.b (decRes tab laws_toFm.rs) (encArgs tab laws_toFm.as x0)
theorem laws_toFm.fok : FnOk Tryz.prog 32 Tryz.f32 laws_toFm.ms laws_toFm.b := ⟨Tryz.func32, by kernel_rfl, by kernel_rfl⟩
noncomputable def laws_toFm.fn : Args tab laws_toFm.as → Option (ResT tab laws_toFm.rs) := fun x => laws_toFm x
theorem laws_toFm.con {δ : Type} : Con Tryz.prog (KT tab) 32 (calleeS (β := δ) tab laws_toFm.ms laws_toFm.as laws_toFm.rs laws_toFm.fn) := con_shape (c := laws_toFm.c) mixed tysOk (getG_con (laws_toFm.gok _)) laws_toFm.fok rfl rfl (fun _ => rfl)
theorem laws_toFm.eq (x0 : Int × Int × Int × (List Int) × (List (Int × (List Int))) × (List Int) × Int × (List Int) × Int × Int × Int × (List Int) × Int × Int × Int × (List Int)) : laws_toFm x0 =
    (laws_toWave (x0.2.2.1, x0.2.2.2.1, x0.2.2.2.2.1)).bind fun y1 =>
    (laws_toIntS x0.2.2.2.2.2.1).bind fun y2 =>
    (laws_toBits (x0.2.2.2.2.2.2.1, x0.2.2.2.2.2.2.2.1)).bind fun y3 =>
    (laws_toPacked (x0.2.2.2.2.2.2.2.2.1, x0.2.2.2.2.2.2.2.2.2.1, x0.2.2.2.2.2.2.2.2.2.2.1, x0.2.2.2.2.2.2.2.2.2.2.2.1)).bind fun y4 =>
    (laws_toPacked (x0.2.2.2.2.2.2.2.2.2.2.2.2.1, x0.2.2.2.2.2.2.2.2.2.2.2.2.2.1, x0.2.2.2.2.2.2.2.2.2.2.2.2.2.2.1, x0.2.2.2.2.2.2.2.2.2.2.2.2.2.2.2)).bind fun y5 =>
    some (x0.1, x0.2.1, y1.1, y1.2.1, y1.2.2, y2, y3.1, y3.2, y4.1, y4.2.1, y4.2.2.1, y4.2.2.2, y5.1, y5.2.1, y5.2.2.1, y5.2.2.2) := by kernel_rfl

/-! ### spec_l01List: loop.example/g00688/spec.l01List -/
def spec_l01List.ms : List Mode := [.lend]
def spec_l01List.as : List VSh := [.agg [.int .i64, .sl false false 126]]
def spec_l01List.rs : RSh := ⟨[.one (.b (.b (.b (.b (.sl true true 3)))))], [none]⟩
noncomputable def spec_l01List.gs (δ : Type) : List (Nat × Callee (GT tab) δ) := []
theorem spec_l01List.gok (δ : Type) : AllCon Tryz.prog tab (spec_l01List.gs δ) := .nil
noncomputable def spec_l01List.c : Ctx (GT tab) (KT tab) (ResT tab spec_l01List.rs) := { X := XT tab, ty := tyOf tys, inner := fun _ => true, keep := keepOf 0 spec_l01List.ms, cuts := [], live := liveOf [(3, [1, 3, 4]), (7, [1, 3, 4, 5, 6])], G := getG (spec_l01List.gs _) }
noncomputable def spec_l01List.b : Code := bodyOf Tryz.f196
noncomputable def spec_l01List (x0 : Int × (List Int)) : Option (List Int) := callW spec_l01List.c (fiOf (GT tab) Tryz.f196 spec_l01List.ms) spec_l01List.b (decRes tab spec_l01List.rs) (encArgs tab spec_l01List.as x0)
theorem spec_l01List.fok : FnOk Tryz.prog 196 Tryz.f196 spec_l01List.ms spec_l01List.b := ⟨Tryz.func196, by kernel_rfl, by kernel_rfl⟩
noncomputable def spec_l01List.fn : Args tab spec_l01List.as → Option (ResT tab spec_l01List.rs) := fun x => spec_l01List x
theorem spec_l01List.con {δ : Type} : Con Tryz.prog (KT tab) 196 (calleeS (β := δ) tab spec_l01List.ms spec_l01List.as spec_l01List.rs spec_l01List.fn) := con_shape (c := spec_l01List.c) mixed tysOk (getG_con (spec_l01List.gok _)) spec_l01List.fok rfl rfl (fun _ => rfl)
noncomputable def spec_l01List_l0 (v0 : Int) (v1 : Int) (v2 : List Int) (v3 : List Int) : Option (List Int) := Lw spec_l01List.c (finish spec_l01List.c (fiOf (GT tab) Tryz.f196 spec_l01List.ms) (decRes tab spec_l01List.rs)) ((loops spec_l01List.c.cuts 1000 spec_l01List.b []).getD 0 []) { slots := [.undef, .ptr 0 0, .undef, .sl 1 0, .int .i64 v0, .undef, .undef, .undef, .undef, .undef, .undef, .undef, .undef, .undef, .undef, .undef, .undef, .undef, .undef, .undef, .undef, .undef, .undef, .undef, .undef, .undef, .undef, .undef, .undef, .undef, .undef, .undef, .undef, .undef, .undef], loc := locOf [.box 30 [.int .i64 v1, .vs false 126 v2], .row 0 true 3 v3], nx := 2 }
noncomputable def spec_l01List_l1 (v0 : Int) (v1 : Int) (v2 : Int) (v3 : Int) (v4 : List Int) (v5 : List Int) : Option (List Int) := Lw spec_l01List.c (finish spec_l01List.c (fiOf (GT tab) Tryz.f196 spec_l01List.ms) (decRes tab spec_l01List.rs)) ((loops spec_l01List.c.cuts 1000 spec_l01List.b []).getD 1 []) { slots := [.undef, .ptr 0 0, .undef, .sl 1 0, .int .i64 v0, .int .u64 v1, .int .i64 v2, .undef, .undef, .undef, .undef, .undef, .undef, .undef, .undef, .undef, .undef, .undef, .undef, .undef, .undef, .undef, .undef, .undef, .undef, .undef, .undef, .undef, .undef, .undef, .undef, .undef, .undef, .undef, .undef], loc := locOf [.box 30 [.int .i64 v3, .vs false 126 v4], .row 0 true 3 v5], nx := 2 }
theorem spec_l01List.eq (x0 : Int × (List Int)) : spec_l01List x0 =
    spec_l01List_l0 (0 : Int) x0.1 x0.2 ([] : List Int) := by kernel_rfl
theorem spec_l01List_l0.eq (v0 : Int) (v1 : Int) (v2 : List Int) (v3 : List Int) : spec_l01List_l0 v0 v1 v2 v3 =
    bif decide (v0 < v1) then
      (at? v2 (IntKind.i64.wrap (v0.tdiv (64 : Int)))).bind fun y1 =>
      spec_l01List_l1 v0 y1 (v0.tmod (64 : Int)) v1 v2 v3
    else
      some v3 := (Lw_eq tysOk (getG_con (spec_l01List.gok _)) _ _).trans (by kernel_rfl)
theorem spec_l01List_l1.eq (v0 : Int) (v1 : Int) (v2 : Int) (v3 : Int) (v4 : List Int) (v5 : List Int) : spec_l01List_l1 v0 v1 v2 v3 v4 v5 =
    bif decide (v2 > (0 : Int)) then
      spec_l01List_l1 v0 (IntKind.u64.wrap (v1.tdiv (2 : Int))) (IntKind.i64.wrap (v2 - (1 : Int))) v3 v4 v5
    else
      bif decide ((v5.length + ([IntKind.i64.wrap (v1.tmod (2 : Int))] : List Int).length) * 8 ≤ 140737488355328) then
        spec_l01List_l0 (IntKind.i64.wrap (v0 + (1 : Int))) v3 v4 (v5 ++ ([IntKind.i64.wrap (v1.tmod (2 : Int))] : List Int))
      else
        none := (Lw_eq tysOk (getG_con (spec_l01List.gok _)) _ _).trans (by kernel_rfl)

/-! ### spec_BitsOk: loop.example/g00688/spec.BitsOk -/
def spec_BitsOk.ms : List Mode := [.lend]
def spec_BitsOk.as : List VSh := [.agg [.int .i64, .sl false false 126]]
def spec_BitsOk.rs : RSh := ⟨[.one (.b (.b (.b (.b (.bool)))))], [none]⟩
noncomputable def spec_BitsOk.gs (δ : Type) : List (Nat × Callee (GT tab) δ) := [(170, calleeS tab spec_BitsOf.ms spec_BitsOf.as spec_BitsOf.rs spec_BitsOf.fn), (196, calleeS tab spec_l01List.ms spec_l01List.as spec_l01List.rs spec_l01List.fn)]
theorem spec_BitsOk.gok (δ : Type) : AllCon Tryz.prog tab (spec_BitsOk.gs δ) := .cons spec_BitsOf.con (.cons spec_l01List.con (.nil))
noncomputable def spec_BitsOk.c : Ctx (GT tab) (KT tab) (ResT tab spec_BitsOk.rs) := { X := XT tab, ty := tyOf tys, inner := fun _ => true, keep := keepOf 0 spec_BitsOk.ms, cuts := [3], live := liveOf [(3, [1]), (5, [1, 3, 5])], G := getG (spec_BitsOk.gs _) }
noncomputable def spec_BitsOk.b : Code := bodyOf Tryz.f194
noncomputable def spec_BitsOk (x0 : Int × (List Int)) : Option (Bool) := callW spec_BitsOk.c (fiOf (GT tab) Tryz.f194 spec_BitsOk.ms) spec_BitsOk.b (decRes tab spec_BitsOk.rs) (encArgs tab spec_BitsOk.as x0)
theorem spec_BitsOk.fok : FnOk Tryz.prog 194 Tryz.f194 spec_BitsOk.ms spec_BitsOk.b := ⟨Tryz.func194, by kernel_rfl, by kernel_rfl⟩
noncomputable def spec_BitsOk.fn : Args tab spec_BitsOk.as → Option (ResT tab spec_BitsOk.rs) := fun x => spec_BitsOk x
theorem spec_BitsOk.con {δ : Type} : Con Tryz.prog (KT tab) 194 (calleeS (β := δ) tab spec_BitsOk.ms spec_BitsOk.as spec_BitsOk.rs spec_BitsOk.fn) := con_shape (c := spec_BitsOk.c) mixed tysOk (getG_con (spec_BitsOk.gok _)) spec_BitsOk.fok rfl rfl (fun _ => rfl)
noncomputable def spec_BitsOk_l0 (v0 : Int) (v1 : List Int) : Option (Bool) := Lw spec_BitsOk.c (finish spec_BitsOk.c (fiOf (GT tab) Tryz.f194 spec_BitsOk.ms) (decRes tab spec_BitsOk.rs)) ((loops spec_BitsOk.c.cuts 1000 spec_BitsOk.b []).getD 0 []) { slots := [.undef, .ptr 0 0, .undef, .undef, .undef, .undef, .undef, .undef, .undef, .undef, .undef, .undef, .undef, .undef, .undef, .undef, .undef, .undef, .undef, .undef, .undef, .undef, .undef, .undef, .undef, .undef, .undef, .undef, .undef, .undef, .undef, .undef, .undef, .undef, .undef, .undef, .undef, .undef, .undef, .undef, .undef, .undef, .undef, .undef, .undef, .undef, .undef, .undef], loc := locOf [.box 30 [.int .i64 v0, .vs false 126 v1]], nx := 1 }
noncomputable def spec_BitsOk_l1 (v0 : Int) (v1 : Int) (v2 : List Int) (v3 : Int) (v4 : List Int) : Option (Bool) := Lw spec_BitsOk.c (finish spec_BitsOk.c (fiOf (GT tab) Tryz.f194 spec_BitsOk.ms) (decRes tab spec_BitsOk.rs)) ((loops spec_BitsOk.c.cuts 1000 spec_BitsOk.b []).getD 1 []) { slots := [.undef, .ptr 0 0, .undef, .ptr 1 0, .undef, .int .i64 v0, .undef, .undef, .undef, .undef, .undef, .undef, .undef, .undef, .undef, .undef, .undef, .undef, .undef, .undef, .undef, .undef, .undef, .undef, .undef, .undef, .undef, .undef, .undef, .undef, .undef, .undef, .undef, .undef, .undef, .undef, .undef, .undef, .undef, .undef, .undef, .undef, .undef, .undef, .undef, .undef, .undef, .undef], loc := locOf [.box 30 [.int .i64 v1, .vs false 126 v2], .box 30 [.int .i64 v3, .sl 2 0], .row 0 true 126 v4], nx := 3 }
theorem spec_BitsOk.eq (x0 : Int × (List Int)) : spec_BitsOk x0 =
    bif decide (x0.1 < (0 : Int)) then
      some false
    else
      bif decide (x0.1 > (5000 : Int)) then
        some false
      else
        bif (x0.2.length : Int) != IntKind.i64.wrap ((IntKind.i64.wrap (x0.1 + (63 : Int))).tdiv (64 : Int)) then
          some false
        else
          spec_BitsOk_l0 x0.1 x0.2 := by kernel_rfl
theorem spec_BitsOk_l0.eq (v0 : Int) (v1 : List Int) : spec_BitsOk_l0 v0 v1 =
    (spec_l01List (v0, v1)).bind fun y1 =>
    (spec_BitsOf y1).bind fun y2 =>
    spec_BitsOk_l1 (0 : Int) v0 v1 y2.1.1 y2.1.2 := (Lw_eq tysOk (getG_con (spec_BitsOk.gok _)) _ _).trans (by kernel_rfl)
theorem spec_BitsOk_l1.eq (v0 : Int) (v1 : Int) (v2 : List Int) (v3 : Int) (v4 : List Int) : spec_BitsOk_l1 v0 v1 v2 v3 v4 =
    bif decide (v0 < (v2.length : Int)) then
      (at? v2 v0).bind fun y1 =>
      (at? v4 v0).bind fun y2 =>
      v4[v0.toNat]?.bind fun y3 =>
      bif y1 != y3 then
        some false
      else
        spec_BitsOk_l1 (IntKind.i64.wrap (v0 + (1 : Int))) v1 v2 v3 v4
    else
      some true := (Lw_eq tysOk (getG_con (spec_BitsOk.gok _)) _ _).trans (by kernel_rfl)

/-! ### spec_l01Bit: loop.example/g00688/spec.l01Bit -/
def spec_l01Bit.ms : List Mode := [.lend]
def spec_l01Bit.as : List VSh := [.one (.b (.b (.b (.b (.int .i64)))))]
def spec_l01Bit.rs : RSh := ⟨[.one (.b (.b (.b (.b (.bool)))))], [none]⟩
noncomputable def spec_l01Bit.gs (δ : Type) : List (Nat × Callee (GT tab) δ) := []
theorem spec_l01Bit.gok (δ : Type) : AllCon Tryz.prog tab (spec_l01Bit.gs δ) := .nil
noncomputable def spec_l01Bit.c : Ctx (GT tab) (KT tab) (ResT tab spec_l01Bit.rs) := { X := XT tab, ty := tyOf tys, inner := fun _ => true, keep := keepOf 0 spec_l01Bit.ms, cuts := [], live := liveOf [], G := getG (spec_l01Bit.gs _) }
noncomputable def spec_l01Bit.b : Code := bodyOf Tryz.f215
noncomputable def spec_l01Bit (x0 : Int) : Option (Bool) := callW spec_l01Bit.c (fiOf (GT tab) Tryz.f215 spec_l01Bit.ms) spec_l01Bit.b (decRes tab spec_l01Bit.rs) (encArgs tab spec_l01Bit.as x0)
theorem spec_l01Bit.fok : FnOk Tryz.prog 215 Tryz.f215 spec_l01Bit.ms spec_l01Bit.b := ⟨Tryz.func215, by kernel_rfl, by kernel_rfl⟩
noncomputable def spec_l01Bit.fn : Args tab spec_l01Bit.as → Option (ResT tab spec_l01Bit.rs) := fun x => spec_l01Bit x
theorem spec_l01Bit.con {δ : Type} : Con Tryz.prog (KT tab) 215 (calleeS (β := δ) tab spec_l01Bit.ms spec_l01Bit.as spec_l01Bit.rs spec_l01Bit.fn) := con_shape (c := spec_l01Bit.c) mixed tysOk (getG_con (spec_l01Bit.gok _)) spec_l01Bit.fok rfl rfl (fun _ => rfl)
theorem spec_l01Bit.eq (x0 : Int) : spec_l01Bit x0 =
    bif x0 == (0 : Int) then
      some true
    else
      some (x0 == (1 : Int)) := by kernel_rfl

/-! ### spec_Rank: loop.example/g00688/spec.Rank -/
def spec_Rank.ms : List Mode := [.lend, .lend, .lend]
def spec_Rank.as : List VSh := [.agg [.int .i64, .sl false false 126], .one (.b (.b (.b (.b (.int .i64))))), .one (.b (.b (.b (.b (.int .i64)))))]
def spec_Rank.rs : RSh := ⟨[.one (.b (.b (.b (.b (.int .i64)))))], [none, none, none]⟩
noncomputable def spec_Rank.gs (δ : Type) : List (Nat × Callee (GT tab) δ) := [(194, calleeS tab spec_BitsOk.ms spec_BitsOk.as spec_BitsOk.rs spec_BitsOk.fn), (196, calleeS tab spec_l01List.ms spec_l01List.as spec_l01List.rs spec_l01List.fn), (215, calleeS tab spec_l01Bit.ms spec_l01Bit.as spec_l01Bit.rs spec_l01Bit.fn)]
theorem spec_Rank.gok (δ : Type) : AllCon Tryz.prog tab (spec_Rank.gs δ) := .cons spec_BitsOk.con (.cons spec_l01List.con (.cons spec_l01Bit.con (.nil)))
noncomputable def spec_Rank.c : Ctx (GT tab) (KT tab) (ResT tab spec_Rank.rs) := { X := XT tab, ty := tyOf tys, inner := fun _ => true, keep := keepOf 0 spec_Rank.ms, cuts := [3], live := liveOf [(3, [1, 2, 3]), (6, [1, 2, 7, 8, 9])], G := getG (spec_Rank.gs _) }
noncomputable def spec_Rank.b : Code := bodyOf Tryz.f195
noncomputable def spec_Rank (x0 : Int × (List Int)) (x1 : Int) (x2 : Int) : Option (Int) := callW spec_Rank.c (fiOf (GT tab) Tryz.f195 spec_Rank.ms) spec_Rank.b (decRes tab spec_Rank.rs) (encArgs tab spec_Rank.as (x0, x1, x2))
theorem spec_Rank.fok : FnOk Tryz.prog 195 Tryz.f195 spec_Rank.ms spec_Rank.b := ⟨Tryz.func195, by kernel_rfl, by kernel_rfl⟩
noncomputable def spec_Rank.fn : Args tab spec_Rank.as → Option (ResT tab spec_Rank.rs) := fun x => spec_Rank x.1 x.2.1 x.2.2
theorem spec_Rank.con {δ : Type} : Con Tryz.prog (KT tab) 195 (calleeS (β := δ) tab spec_Rank.ms spec_Rank.as spec_Rank.rs spec_Rank.fn) := con_shape (c := spec_Rank.c) mixed tysOk (getG_con (spec_Rank.gok _)) spec_Rank.fok rfl rfl (fun _ => rfl)
noncomputable def spec_Rank_l0 (v0 : Int) (v1 : Int) (v2 : Int) (v3 : List Int) : Option (Int) := Lw spec_Rank.c (finish spec_Rank.c (fiOf (GT tab) Tryz.f195 spec_Rank.ms) (decRes tab spec_Rank.rs)) ((loops spec_Rank.c.cuts 1000 spec_Rank.b []).getD 0 []) { slots := [.undef, .int .i64 v0, .int .i64 v1, .ptr 0 0, .undef, .undef, .undef, .undef, .undef, .undef, .undef, .undef, .undef, .undef, .undef, .undef, .undef, .undef, .undef, .undef, .undef, .undef, .undef, .undef, .undef, .undef, .undef, .undef, .undef, .undef, .undef, .undef, .undef, .undef, .undef, .undef, .undef, .undef, .undef, .undef, .undef, .undef, .undef, .undef], loc := locOf [.box 30 [.int .i64 v2, .vs false 126 v3]], nx := 1 }
noncomputable def spec_Rank_l1 (v0 : Int) (v1 : Int) (v2 : Int) (v3 : Int) (v4 : List Int) : Option (Int) := Lw spec_Rank.c (finish spec_Rank.c (fiOf (GT tab) Tryz.f195 spec_Rank.ms) (decRes tab spec_Rank.rs)) ((loops spec_Rank.c.cuts 1000 spec_Rank.b []).getD 1 []) { slots := [.undef, .int .i64 v0, .int .i64 v1, .undef, .undef, .undef, .undef, .sl 0 0, .int .i64 v2, .int .i64 v3, .undef, .undef, .undef, .undef, .undef, .undef, .undef, .undef, .undef, .undef, .undef, .undef, .undef, .undef, .undef, .undef, .undef, .undef, .undef, .undef, .undef, .undef, .undef, .undef, .undef, .undef, .undef, .undef, .undef, .undef, .undef, .undef, .undef, .undef], loc := locOf [.row 0 true 3 v4], nx := 1 }
theorem spec_Rank.eq (x0 : Int × (List Int)) (x1 : Int) (x2 : Int) : spec_Rank x0 x1 x2 =
    (spec_BitsOk (x0.1, x0.2)).bind fun y1 =>
    bif !y1 then
      some (-1 : Int)
    else
      (spec_l01Bit x1).bind fun y2 =>
      bif !y2 then
        some (-1 : Int)
      else
        bif decide (x2 < (0 : Int)) then
          some (-1 : Int)
        else
          bif decide (x2 > x0.1) then
            some (-1 : Int)
          else
            spec_Rank_l0 x1 x2 x0.1 x0.2 := by kernel_rfl
theorem spec_Rank_l0.eq (v0 : Int) (v1 : Int) (v2 : Int) (v3 : List Int) : spec_Rank_l0 v0 v1 v2 v3 =
    (spec_l01List (v2, v3)).bind fun y1 =>
    spec_Rank_l1 v0 v1 (0 : Int) (0 : Int) y1 := (Lw_eq tysOk (getG_con (spec_Rank.gok _)) _ _).trans (by kernel_rfl)
theorem spec_Rank_l1.eq (v0 : Int) (v1 : Int) (v2 : Int) (v3 : Int) (v4 : List Int) : spec_Rank_l1 v0 v1 v2 v3 v4 =
    bif decide (v3 < v1) then
      (at? v4 v3).bind fun y1 =>
      v4[v3.toNat]?.bind fun y2 =>
      bif y2 == v0 then
        spec_Rank_l1 v0 v1 (IntKind.i64.wrap (v2 + (1 : Int))) (IntKind.i64.wrap (v3 + (1 : Int))) v4
      else
        spec_Rank_l1 v0 v1 v2 (IntKind.i64.wrap (v3 + (1 : Int))) v4
    else
      some v2 := (Lw_eq tysOk (getG_con (spec_Rank.gok _)) _ _).trans (by kernel_rfl)

/-! ### spec_WaveOk: loop.example/g00688/spec.WaveOk -/
def spec_WaveOk.ms : List Mode := [.lend]
def spec_WaveOk.as : List VSh := [.agg [.int .i64, .sl false false 3, .sl false false 30]]
def spec_WaveOk.rs : RSh := ⟨[.one (.b (.b (.b (.b (.bool)))))], [none]⟩
noncomputable def spec_WaveOk.gs (δ : Type) : List (Nat × Callee (GT tab) δ) := [(194, calleeS tab spec_BitsOk.ms spec_BitsOk.as spec_BitsOk.rs spec_BitsOk.fn), (195, calleeS tab spec_Rank.ms spec_Rank.as spec_Rank.rs spec_Rank.fn)]
theorem spec_WaveOk.gok (δ : Type) : AllCon Tryz.prog tab (spec_WaveOk.gs δ) := .cons spec_BitsOk.con (.cons spec_Rank.con (.nil))
noncomputable def spec_WaveOk.c : Ctx (GT tab) (KT tab) (ResT tab spec_WaveOk.rs) := { X := XT tab, ty := tyOf tys, inner := fun _ => true, keep := keepOf 0 spec_WaveOk.ms, cuts := [3], live := liveOf [(3, [1]), (4, [1, 3])], G := getG (spec_WaveOk.gs _) }
noncomputable def spec_WaveOk.b : Code := bodyOf Tryz.f161
noncomputable def spec_WaveOk (x0 : Int × (List Int) × (List (Int × (List Int)))) : Option (Bool) := callW spec_WaveOk.c (fiOf (GT tab) Tryz.f161 spec_WaveOk.ms) spec_WaveOk.b (decRes tab spec_WaveOk.rs) (encArgs tab spec_WaveOk.as x0)
theorem spec_WaveOk.fok : FnOk Tryz.prog 161 Tryz.f161 spec_WaveOk.ms spec_WaveOk.b := ⟨Tryz.func161, by kernel_rfl, by kernel_rfl⟩
noncomputable def spec_WaveOk.fn : Args tab spec_WaveOk.as → Option (ResT tab spec_WaveOk.rs) := fun x => spec_WaveOk x
theorem spec_WaveOk.con {δ : Type} : Con Tryz.prog (KT tab) 161 (calleeS (β := δ) tab spec_WaveOk.ms spec_WaveOk.as spec_WaveOk.rs spec_WaveOk.fn) := con_shape (c := spec_WaveOk.c) mixed tysOk (getG_con (spec_WaveOk.gok _)) spec_WaveOk.fok rfl rfl (fun _ => rfl)
noncomputable def spec_WaveOk_l0 (v0 : Int) (v1 : List Int) (v2 : List (Int × (List Int))) : Option (Bool) := Lw spec_WaveOk.c (finish spec_WaveOk.c (fiOf (GT tab) Tryz.f161 spec_WaveOk.ms) (decRes tab spec_WaveOk.rs)) ((loops spec_WaveOk.c.cuts 1000 spec_WaveOk.b []).getD 0 []) { slots := [.undef, .ptr 0 0, .undef, .undef, .undef, .undef, .undef, .undef, .undef, .undef, .undef, .undef, .undef, .undef, .undef, .undef, .undef, .undef, .undef, .undef, .undef, .undef, .undef, .undef, .undef, .undef, .undef, .undef, .undef, .undef, .undef, .undef, .undef, .undef, .undef, .undef, .undef, .undef, .undef, .undef, .undef, .undef, .undef, .undef, .undef, .undef, .undef, .undef, .undef, .undef, .undef, .undef, .undef, .undef, .undef, .undef, .undef, .undef, .undef, .undef, .undef, .undef], loc := locOf [.box 27 [.int .i64 v0, .vs false 3 v1, .vs false 30 v2]], nx := 1 }
noncomputable def spec_WaveOk_l1 (v0 : Int) (v1 : Int) (v2 : List Int) (v3 : List (Int × (List Int))) : Option (Bool) := Lw spec_WaveOk.c (finish spec_WaveOk.c (fiOf (GT tab) Tryz.f161 spec_WaveOk.ms) (decRes tab spec_WaveOk.rs)) ((loops spec_WaveOk.c.cuts 1000 spec_WaveOk.b []).getD 1 []) { slots := [.undef, .ptr 0 0, .undef, .int .i64 v0, .undef, .undef, .undef, .undef, .undef, .undef, .undef, .undef, .undef, .undef, .undef, .undef, .undef, .undef, .undef, .undef, .undef, .undef, .undef, .undef, .undef, .undef, .undef, .undef, .undef, .undef, .undef, .undef, .undef, .undef, .undef, .undef, .undef, .undef, .undef, .undef, .undef, .undef, .undef, .undef, .undef, .undef, .undef, .undef, .undef, .undef, .undef, .undef, .undef, .undef, .undef, .undef, .undef, .undef, .undef, .undef, .undef, .undef], loc := locOf [.box 27 [.int .i64 v1, .vs false 3 v2, .vs false 30 v3]], nx := 1 }
theorem spec_WaveOk.eq (x0 : Int × (List Int) × (List (Int × (List Int)))) : spec_WaveOk x0 =
    bif decide (x0.1 < (0 : Int)) then
      some false
    else
      bif decide (x0.1 > (1000 : Int)) then
        some false
      else
        bif (x0.2.2.length : Int) != (9 : Int) then
          some false
        else
          bif (x0.2.1.length : Int) != (9 : Int) then
            some false
          else
            spec_WaveOk_l0 x0.1 x0.2.1 x0.2.2 := by kernel_rfl
theorem spec_WaveOk_l0.eq (v0 : Int) (v1 : List Int) (v2 : List (Int × (List Int))) : spec_WaveOk_l0 v0 v1 v2 =
    spec_WaveOk_l1 (0 : Int) v0 v1 v2 := (Lw_eq tysOk (getG_con (spec_WaveOk.gok _)) _ _).trans (by kernel_rfl)
theorem spec_WaveOk_l1.eq (v0 : Int) (v1 : Int) (v2 : List Int) (v3 : List (Int × (List Int))) : spec_WaveOk_l1 v0 v1 v2 v3 =
    bif decide (v0 < (9 : Int)) then
      (at? v3 v0).bind fun y1 =>
      bif y1.1 != v1 then
        some false
      else
        (at? v3 v0).bind fun y2 =>
        (spec_BitsOk (y2.1, y2.2)).bind fun y3 =>
        bif !y3 then
          some false
        else
          (at? v3 v0).bind fun y4 =>
          (spec_Rank (y4.1, y4.2) (0 : Int) v1).bind fun y5 =>
          (at? v2 v0).bind fun y6 =>
          bif y5 != y6 then
            some false
          else
            spec_WaveOk_l1 (IntKind.i64.wrap (v0 + (1 : Int))) v1 v2 v3
    else
      some true := (Lw_eq tysOk (getG_con (spec_WaveOk.gok _)) _ _).trans (by kernel_rfl)

/-! ### spec_l07List: loop.example/g00688/spec.l07List -/
def spec_l07List.ms : List Mode := [.lend]
def spec_l07List.as : List VSh := [.agg [.int .i64, .sl false false 3, .sl false false 30]]
def spec_l07List.rs : RSh := ⟨[.one (.b (.b (.b (.b (.sl true true 3)))))], [none]⟩
noncomputable def spec_l07List.gs (δ : Type) : List (Nat × Callee (GT tab) δ) := [(196, calleeS tab spec_l01List.ms spec_l01List.as spec_l01List.rs spec_l01List.fn)]
theorem spec_l07List.gok (δ : Type) : AllCon Tryz.prog tab (spec_l07List.gs δ) := .cons spec_l01List.con (.nil)
noncomputable def spec_l07List.c : Ctx (GT tab) (KT tab) (ResT tab spec_l07List.rs) := { X := XT tab, ty := tyOf tys, inner := fun _ => true, keep := keepOf 0 spec_l07List.ms, cuts := [], live := liveOf [(4, [1, 3, 4, 5]), (8, [1, 3, 4, 6]), (13, [1, 3, 4, 6, 7, 8, 9]), (19, [1, 3, 4, 6, 7, 8, 9, 10, 11, 12, 13])], G := getG (spec_l07List.gs _) }
noncomputable def spec_l07List.b : Code := bodyOf Tryz.f182
noncomputable def spec_l07List (x0 : Int × (List Int) × (List (Int × (List Int)))) : Option (List Int) := callW spec_l07List.c (fiOf (GT tab) Tryz.f182 spec_l07List.ms) spec_l07List.b (decRes tab spec_l07List.rs) (encArgs tab spec_l07List.as x0)
theorem spec_l07List.fok : FnOk Tryz.prog 182 Tryz.f182 spec_l07List.ms spec_l07List.b := ⟨Tryz.func182, by kernel_rfl, by kernel_rfl⟩
noncomputable def spec_l07List.fn : Args tab spec_l07List.as → Option (ResT tab spec_l07List.rs) := fun x => spec_l07List x
theorem spec_l07List.con {δ : Type} : Con Tryz.prog (KT tab) 182 (calleeS (β := δ) tab spec_l07List.ms spec_l07List.as spec_l07List.rs spec_l07List.fn) := con_shape (c := spec_l07List.c) mixed tysOk (getG_con (spec_l07List.gok _)) spec_l07List.fok rfl rfl (fun _ => rfl)
noncomputable def spec_l07List_l0 (v0 : Int) (v1 : Int) (v2 : List Int) (v3 : List (Int × (List Int))) (v4 : List Int) (v5 : List (List Int)) : Option (List Int) := Lw spec_l07List.c (finish spec_l07List.c (fiOf (GT tab) Tryz.f182 spec_l07List.ms) (decRes tab spec_l07List.rs)) ((loops spec_l07List.c.cuts 1000 spec_l07List.b []).getD 0 []) { slots := [.undef, .ptr 0 0, .undef, .sl 1 0, .sl 2 0, .int .i64 v0, .undef, .undef, .undef, .undef, .undef, .undef, .undef, .undef, .undef, .undef, .undef, .undef, .undef, .undef, .undef, .undef, .undef, .undef, .undef, .undef, .undef, .undef, .undef, .undef, .undef, .undef, .undef, .undef, .undef, .undef, .undef, .undef, .undef, .undef, .undef, .undef, .undef, .undef, .undef, .undef, .undef, .undef, .undef, .undef, .undef, .undef, .undef, .undef, .undef, .undef, .undef, .undef, .undef, .undef, .undef, .undef, .undef, .undef, .undef, .undef, .undef, .undef, .undef, .undef, .undef, .undef, .undef, .undef, .undef, .undef, .undef, .undef, .undef, .undef, .undef, .undef, .undef, .undef, .undef, .undef, .undef, .undef, .undef, .undef, .undef, .undef, .undef, .undef], loc := locOf [.box 27 [.int .i64 v1, .vs false 3 v2, .vs false 30 v3], .row 0 true 3 v4, .row 0 true 24 v5], nx := 3 }
noncomputable def spec_l07List_l1 (v0 : Int) (v1 : Int) (v2 : List Int) (v3 : List (Int × (List Int))) (v4 : List Int) (v5 : List (List Int)) : Option (List Int) := Lw spec_l07List.c (finish spec_l07List.c (fiOf (GT tab) Tryz.f182 spec_l07List.ms) (decRes tab spec_l07List.rs)) ((loops spec_l07List.c.cuts 1000 spec_l07List.b []).getD 1 []) { slots := [.undef, .ptr 0 0, .undef, .sl 1 0, .sl 2 0, .undef, .int .i64 v0, .undef, .undef, .undef, .undef, .undef, .undef, .undef, .undef, .undef, .undef, .undef, .undef, .undef, .undef, .undef, .undef, .undef, .undef, .undef, .undef, .undef, .undef, .undef, .undef, .undef, .undef, .undef, .undef, .undef, .undef, .undef, .undef, .undef, .undef, .undef, .undef, .undef, .undef, .undef, .undef, .undef, .undef, .undef, .undef, .undef, .undef, .undef, .undef, .undef, .undef, .undef, .undef, .undef, .undef, .undef, .undef, .undef, .undef, .undef, .undef, .undef, .undef, .undef, .undef, .undef, .undef, .undef, .undef, .undef, .undef, .undef, .undef, .undef, .undef, .undef, .undef, .undef, .undef, .undef, .undef, .undef, .undef, .undef, .undef, .undef, .undef, .undef], loc := locOf [.box 27 [.int .i64 v1, .vs false 3 v2, .vs false 30 v3], .row 0 true 3 v4, .row 0 true 24 v5], nx := 3 }
noncomputable def spec_l07List_l2 (v0 : Int) (v1 : Int) (v2 : Int) (v3 : Int) (v4 : Int) (v5 : List Int) (v6 : List (Int × (List Int))) (v7 : List Int) (v8 : List (List Int)) : Option (List Int) := Lw spec_l07List.c (finish spec_l07List.c (fiOf (GT tab) Tryz.f182 spec_l07List.ms) (decRes tab spec_l07List.rs)) ((loops spec_l07List.c.cuts 1000 spec_l07List.b []).getD 2 []) { slots := [.undef, .ptr 0 0, .undef, .sl 1 0, .sl 2 0, .undef, .int .i64 v0, .int .i64 v1, .int .i64 v2, .int .i64 v3, .undef, .undef, .undef, .undef, .undef, .undef, .undef, .undef, .undef, .undef, .undef, .undef, .undef, .undef, .undef, .undef, .undef, .undef, .undef, .undef, .undef, .undef, .undef, .undef, .undef, .undef, .undef, .undef, .undef, .undef, .undef, .undef, .undef, .undef, .undef, .undef, .undef, .undef, .undef, .undef, .undef, .undef, .undef, .undef, .undef, .undef, .undef, .undef, .undef, .undef, .undef, .undef, .undef, .undef, .undef, .undef, .undef, .undef, .undef, .undef, .undef, .undef, .undef, .undef, .undef, .undef, .undef, .undef, .undef, .undef, .undef, .undef, .undef, .undef, .undef, .undef, .undef, .undef, .undef, .undef, .undef, .undef, .undef, .undef], loc := locOf [.box 27 [.int .i64 v4, .vs false 3 v5, .vs false 30 v6], .row 0 true 3 v7, .row 0 true 24 v8], nx := 3 }
noncomputable def spec_l07List_l3 (v0 : Int) (v1 : Int) (v2 : Int) (v3 : Int) (v4 : Int) (v5 : Int) (v6 : Int) (v7 : Int) (v8 : Int) (v9 : List Int) (v10 : List (Int × (List Int))) (v11 : List Int) (v12 : List (List Int)) : Option (List Int) := Lw spec_l07List.c (finish spec_l07List.c (fiOf (GT tab) Tryz.f182 spec_l07List.ms) (decRes tab spec_l07List.rs)) ((loops spec_l07List.c.cuts 1000 spec_l07List.b []).getD 3 []) { slots := [.undef, .ptr 0 0, .undef, .sl 1 0, .sl 2 0, .undef, .int .i64 v0, .int .i64 v1, .int .i64 v2, .int .i64 v3, .int .i64 v4, .int .i64 v5, .int .i64 v6, .int .i64 v7, .undef, .undef, .undef, .undef, .undef, .undef, .undef, .undef, .undef, .undef, .undef, .undef, .undef, .undef, .undef, .undef, .undef, .undef, .undef, .undef, .undef, .undef, .undef, .undef, .undef, .undef, .undef, .undef, .undef, .undef, .undef, .undef, .undef, .undef, .undef, .undef, .undef, .undef, .undef, .undef, .undef, .undef, .undef, .undef, .undef, .undef, .undef, .undef, .undef, .undef, .undef, .undef, .undef, .undef, .undef, .undef, .undef, .undef, .undef, .undef, .undef, .undef, .undef, .undef, .undef, .undef, .undef, .undef, .undef, .undef, .undef, .undef, .undef, .undef, .undef, .undef, .undef, .undef, .undef, .undef], loc := locOf [.box 27 [.int .i64 v8, .vs false 3 v9, .vs false 30 v10], .row 0 true 3 v11, .row 0 true 24 v12], nx := 3 }
theorem spec_l07List.eq (x0 : Int × (List Int) × (List (Int × (List Int)))) : spec_l07List x0 =
    spec_l07List_l0 (0 : Int) x0.1 x0.2.1 x0.2.2 ([] : List Int) ([] : List (List Int)) := by kernel_rfl
theorem spec_l07List_l0.eq (v0 : Int) (v1 : Int) (v2 : List Int) (v3 : List (Int × (List Int))) (v4 : List Int) (v5 : List (List Int)) : spec_l07List_l0 v0 v1 v2 v3 v4 v5 =
    bif decide (v0 < (9 : Int)) then
      (at? v3 v0).bind fun y1 =>
      (spec_l01List (y1.1, y1.2)).bind fun y2 =>
      bif decide ((v5.length + ([y2] : List (List Int)).length) * 24 ≤ 140737488355328) then
        spec_l07List_l0 (IntKind.i64.wrap (v0 + (1 : Int))) v1 v2 v3 v4 (v5 ++ ([y2] : List (List Int)))
      else
        none
    else
      spec_l07List_l1 (0 : Int) v1 v2 v3 v4 v5 := (Lw_eq tysOk (getG_con (spec_l07List.gok _)) _ _).trans (by kernel_rfl)
theorem spec_l07List_l1.eq (v0 : Int) (v1 : Int) (v2 : List Int) (v3 : List (Int × (List Int))) (v4 : List Int) (v5 : List (List Int)) : spec_l07List_l1 v0 v1 v2 v3 v4 v5 =
    bif decide (v0 < v1) then
      spec_l07List_l2 v0 v0 (0 : Int) (0 : Int) v1 v2 v3 v4 v5
    else
      some v4 := (Lw_eq tysOk (getG_con (spec_l07List.gok _)) _ _).trans (by kernel_rfl)
theorem spec_l07List_l2.eq (v0 : Int) (v1 : Int) (v2 : Int) (v3 : Int) (v4 : Int) (v5 : List Int) (v6 : List (Int × (List Int))) (v7 : List Int) (v8 : List (List Int)) : spec_l07List_l2 v0 v1 v2 v3 v4 v5 v6 v7 v8 =
    bif decide (v3 < (9 : Int)) then
      (at? v8 v3).bind fun y1 =>
      v8[v3.toNat]?.bind fun y2 =>
      (at? y2 v1).bind fun y3 =>
      y2[v1.toNat]?.bind fun y4 =>
      spec_l07List_l3 v0 v1 v2 v3 y4 (0 : Int) (0 : Int) (0 : Int) v4 v5 v6 v7 (v8.set v3.toNat y2)
    else
      bif decide ((v7.length + ([v2] : List Int).length) * 8 ≤ 140737488355328) then
        spec_l07List_l1 (IntKind.i64.wrap (v0 + (1 : Int))) v4 v5 v6 (v7 ++ ([v2] : List Int)) v8
      else
        none := (Lw_eq tysOk (getG_con (spec_l07List.gok _)) _ _).trans (by kernel_rfl)
theorem spec_l07List_l3.eq (v0 : Int) (v1 : Int) (v2 : Int) (v3 : Int) (v4 : Int) (v5 : Int) (v6 : Int) (v7 : Int) (v8 : Int) (v9 : List Int) (v10 : List (Int × (List Int))) (v11 : List Int) (v12 : List (List Int)) : spec_l07List_l3 v0 v1 v2 v3 v4 v5 v6 v7 v8 v9 v10 v11 v12 =
    bif decide (v7 < v8) then
      (at? v12 v3).bind fun y1 =>
      v12[v3.toNat]?.bind fun y2 =>
      (at? y2 v7).bind fun y3 =>
      y2[v7.toNat]?.bind fun y4 =>
      bif y4 == (0 : Int) then
        bif decide (v7 < v1) then
          (at? (v12.set v3.toNat y2) v3).bind fun y5 =>
          (v12.set v3.toNat y2)[v3.toNat]?.bind fun y6 =>
          (at? y6 v7).bind fun y7 =>
          y6[v7.toNat]?.bind fun y8 =>
          bif y8 == v4 then
            spec_l07List_l3 v0 v1 v2 v3 v4 (IntKind.i64.wrap (v5 + (1 : Int))) (IntKind.i64.wrap (v6 + (1 : Int))) (IntKind.i64.wrap (v7 + (1 : Int))) v8 v9 v10 v11 ((v12.set v3.toNat y2).set v3.toNat y6)
          else
            spec_l07List_l3 v0 v1 v2 v3 v4 v5 (IntKind.i64.wrap (v6 + (1 : Int))) (IntKind.i64.wrap (v7 + (1 : Int))) v8 v9 v10 v11 ((v12.set v3.toNat y2).set v3.toNat y6)
        else
          spec_l07List_l3 v0 v1 v2 v3 v4 v5 (IntKind.i64.wrap (v6 + (1 : Int))) (IntKind.i64.wrap (v7 + (1 : Int))) v8 v9 v10 v11 (v12.set v3.toNat y2)
      else
        bif decide (v7 < v1) then
          (at? (v12.set v3.toNat y2) v3).bind fun y9 =>
          (v12.set v3.toNat y2)[v3.toNat]?.bind fun y10 =>
          (at? y10 v7).bind fun y11 =>
          y10[v7.toNat]?.bind fun y12 =>
          bif y12 == v4 then
            spec_l07List_l3 v0 v1 v2 v3 v4 (IntKind.i64.wrap (v5 + (1 : Int))) v6 (IntKind.i64.wrap (v7 + (1 : Int))) v8 v9 v10 v11 ((v12.set v3.toNat y2).set v3.toNat y10)
          else
            spec_l07List_l3 v0 v1 v2 v3 v4 v5 v6 (IntKind.i64.wrap (v7 + (1 : Int))) v8 v9 v10 v11 ((v12.set v3.toNat y2).set v3.toNat y10)
        else
          spec_l07List_l3 v0 v1 v2 v3 v4 v5 v6 (IntKind.i64.wrap (v7 + (1 : Int))) v8 v9 v10 v11 (v12.set v3.toNat y2)
    else
      bif v4 == (1 : Int) then
        spec_l07List_l2 v0 (IntKind.i64.wrap (v6 + v5)) (IntKind.i64.wrap ((IntKind.i64.wrap ((2 : Int) * v2)) + v4)) (IntKind.i64.wrap (v3 + (1 : Int))) v8 v9 v10 v11 v12
      else
        spec_l07List_l2 v0 v5 (IntKind.i64.wrap ((IntKind.i64.wrap ((2 : Int) * v2)) + v4)) (IntKind.i64.wrap (v3 + (1 : Int))) v8 v9 v10 v11 v12 := (Lw_eq tysOk (getG_con (spec_l07List.gok _)) _ _).trans (by kernel_rfl)

/-! ### spec_WaveList: loop.example/g00688/spec.WaveList -/
def spec_WaveList.ms : List Mode := [.lend]
def spec_WaveList.as : List VSh := [.agg [.int .i64, .sl false false 3, .sl false false 30]]
def spec_WaveList.rs : RSh := ⟨[.one (.b (.b (.b (.b (.sl true true 3)))))], [none]⟩
noncomputable def spec_WaveList.gs (δ : Type) : List (Nat × Callee (GT tab) δ) := [(161, calleeS tab spec_WaveOk.ms spec_WaveOk.as spec_WaveOk.rs spec_WaveOk.fn), (182, calleeS tab spec_l07List.ms spec_l07List.as spec_l07List.rs spec_l07List.fn)]
theorem spec_WaveList.gok (δ : Type) : AllCon Tryz.prog tab (spec_WaveList.gs δ) := .cons spec_WaveOk.con (.cons spec_l07List.con (.nil))
noncomputable def spec_WaveList.c : Ctx (GT tab) (KT tab) (ResT tab spec_WaveList.rs) := { X := XT tab, ty := tyOf tys, inner := fun _ => true, keep := keepOf 0 spec_WaveList.ms, cuts := [], live := liveOf [], G := getG (spec_WaveList.gs _) }
noncomputable def spec_WaveList.b : Code := bodyOf Tryz.f126
noncomputable def spec_WaveList (x0 : Int × (List Int) × (List (Int × (List Int)))) : Option (List Int) := callW spec_WaveList.c (fiOf (GT tab) Tryz.f126 spec_WaveList.ms) spec_WaveList.b (decRes tab spec_WaveList.rs) (encArgs tab spec_WaveList.as x0)
theorem spec_WaveList.fok : FnOk Tryz.prog 126 Tryz.f126 spec_WaveList.ms spec_WaveList.b := ⟨Tryz.func126, by kernel_rfl, by kernel_rfl⟩
noncomputable def spec_WaveList.fn : Args tab spec_WaveList.as → Option (ResT tab spec_WaveList.rs) := fun x => spec_WaveList x
theorem spec_WaveList.con {δ : Type} : Con Tryz.prog (KT tab) 126 (calleeS (β := δ) tab spec_WaveList.ms spec_WaveList.as spec_WaveList.rs spec_WaveList.fn) := con_shape (c := spec_WaveList.c) mixed tysOk (getG_con (spec_WaveList.gok _)) spec_WaveList.fok rfl rfl (fun _ => rfl)
theorem spec_WaveList.eq (x0 : Int × (List Int) × (List (Int × (List Int)))) : spec_WaveList x0 =
    (spec_WaveOk (x0.1, x0.2.1, x0.2.2)).bind fun y1 =>
    bif !y1 then
      some ([] : List Int)
    else
      (spec_l07List (x0.1, x0.2.1, x0.2.2)).bind fun y2 =>
      some y2 := by kernel_rfl

/-! ### spec_LfOf: loop.example/g00688/spec.LfOf -/
def spec_LfOf.ms : List Mode := [.lend]
def spec_LfOf.as : List VSh := [.one (.b (.b (.b (.b (.sl false false 3)))))]
def spec_LfOf.rs : RSh := ⟨[.one (.b (.b (.b (.b (.sl true true 3)))))], [none]⟩
noncomputable def spec_LfOf.gs (δ : Type) : List (Nat × Callee (GT tab) δ) := [(137, calleeS tab spec_SymsOk.ms spec_SymsOk.as spec_SymsOk.rs spec_SymsOk.fn)]
theorem spec_LfOf.gok (δ : Type) : AllCon Tryz.prog tab (spec_LfOf.gs δ) := .cons spec_SymsOk.con (.nil)
noncomputable def spec_LfOf.c : Ctx (GT tab) (KT tab) (ResT tab spec_LfOf.rs) := { X := XT tab, ty := tyOf tys, inner := fun _ => true, keep := keepOf 0 spec_LfOf.ms, cuts := [], live := liveOf [(5, [0, 3, 4]), (9, [0, 3, 4, 5, 6])], G := getG (spec_LfOf.gs _) }
noncomputable def spec_LfOf.b : Code := bodyOf Tryz.f80
noncomputable def spec_LfOf (x0 : List Int) : Option (List Int) := callW spec_LfOf.c (fiOf (GT tab) Tryz.f80 spec_LfOf.ms) spec_LfOf.b (decRes tab spec_LfOf.rs) (encArgs tab spec_LfOf.as x0)
theorem spec_LfOf.fok : FnOk Tryz.prog 80 Tryz.f80 spec_LfOf.ms spec_LfOf.b := ⟨Tryz.func80, by kernel_rfl, by kernel_rfl⟩
noncomputable def spec_LfOf.fn : Args tab spec_LfOf.as → Option (ResT tab spec_LfOf.rs) := fun x => spec_LfOf x
theorem spec_LfOf.con {δ : Type} : Con Tryz.prog (KT tab) 80 (calleeS (β := δ) tab spec_LfOf.ms spec_LfOf.as spec_LfOf.rs spec_LfOf.fn) := con_shape (c := spec_LfOf.c) mixed tysOk (getG_con (spec_LfOf.gok _)) spec_LfOf.fok rfl rfl (fun _ => rfl)
noncomputable def spec_LfOf_l0 (v0 : List Int) (v1 : Int) (v2 : List Int) : Option (List Int) := Lw spec_LfOf.c (finish spec_LfOf.c (fiOf (GT tab) Tryz.f80 spec_LfOf.ms) (decRes tab spec_LfOf.rs)) ((loops spec_LfOf.c.cuts 1000 spec_LfOf.b []).getD 0 []) { slots := [.vs false 3 v0, .undef, .undef, .sl 0 0, .int .i64 v1, .undef, .undef, .undef, .undef, .undef, .undef, .undef, .undef, .undef, .undef, .undef, .undef, .undef, .undef, .undef, .undef, .undef, .undef, .undef, .undef, .undef, .undef, .undef, .undef, .undef, .undef, .undef, .undef, .undef, .undef, .undef, .undef, .undef, .undef, .undef, .undef, .undef, .undef, .undef, .undef, .undef, .undef, .undef, .undef, .undef, .undef, .undef, .undef, .undef, .undef], loc := locOf [.row 0 true 3 v2], nx := 1 }
noncomputable def spec_LfOf_l1 (v0 : List Int) (v1 : Int) (v2 : Int) (v3 : Int) (v4 : List Int) : Option (List Int) := Lw spec_LfOf.c (finish spec_LfOf.c (fiOf (GT tab) Tryz.f80 spec_LfOf.ms) (decRes tab spec_LfOf.rs)) ((loops spec_LfOf.c.cuts 1000 spec_LfOf.b []).getD 1 []) { slots := [.vs false 3 v0, .undef, .undef, .sl 0 0, .int .i64 v1, .int .i64 v2, .int .i64 v3, .undef, .undef, .undef, .undef, .undef, .undef, .undef, .undef, .undef, .undef, .undef, .undef, .undef, .undef, .undef, .undef, .undef, .undef, .undef, .undef, .undef, .undef, .undef, .undef, .undef, .undef, .undef, .undef, .undef, .undef, .undef, .undef, .undef, .undef, .undef, .undef, .undef, .undef, .undef, .undef, .undef, .undef, .undef, .undef, .undef, .undef, .undef, .undef], loc := locOf [.row 0 true 3 v4], nx := 1 }
theorem spec_LfOf.eq (x0 : List Int) : spec_LfOf x0 =
    (spec_SymsOk x0).bind fun y1 =>
    bif !y1 then
      some ([] : List Int)
    else
      spec_LfOf_l0 x0 (0 : Int) ([] : List Int) := by kernel_rfl
theorem spec_LfOf_l0.eq (v0 : List Int) (v1 : Int) (v2 : List Int) : spec_LfOf_l0 v0 v1 v2 =
    bif decide (v1 < (v0.length : Int)) then
      spec_LfOf_l1 v0 v1 (0 : Int) (0 : Int) v2
    else
      some v2 := (Lw_eq tysOk (getG_con (spec_LfOf.gok _)) _ _).trans (by kernel_rfl)
theorem spec_LfOf_l1.eq (v0 : List Int) (v1 : Int) (v2 : Int) (v3 : Int) (v4 : List Int) : spec_LfOf_l1 v0 v1 v2 v3 v4 =
    bif decide (v3 < (v0.length : Int)) then
      (at? v0 v3).bind fun y1 =>
      (at? v0 v1).bind fun y2 =>
      bif decide (y1 < y2) then
        spec_LfOf_l1 v0 v1 (IntKind.i64.wrap (v2 + (1 : Int))) (IntKind.i64.wrap (v3 + (1 : Int))) v4
      else
        bif decide (v3 < v1) then
          (at? v0 v3).bind fun y3 =>
          (at? v0 v1).bind fun y4 =>
          bif y3 == y4 then
            spec_LfOf_l1 v0 v1 (IntKind.i64.wrap (v2 + (1 : Int))) (IntKind.i64.wrap (v3 + (1 : Int))) v4
          else
            spec_LfOf_l1 v0 v1 v2 (IntKind.i64.wrap (v3 + (1 : Int))) v4
        else
          spec_LfOf_l1 v0 v1 v2 (IntKind.i64.wrap (v3 + (1 : Int))) v4
    else
      bif decide ((v4.length + ([v2] : List Int).length) * 8 ≤ 140737488355328) then
        spec_LfOf_l0 v0 (IntKind.i64.wrap (v1 + (1 : Int))) (v4 ++ ([v2] : List Int))
      else
        none := (Lw_eq tysOk (getG_con (spec_LfOf.gok _)) _ _).trans (by kernel_rfl)

/-! ### spec_l01Same: loop.example/g00688/spec.l01Same -/
def spec_l01Same.ms : List Mode := [.lend, .lend]
def spec_l01Same.as : List VSh := [.one (.b (.b (.b (.b (.sl false false 3))))), .one (.b (.b (.b (.b (.sl false false 3)))))]
def spec_l01Same.rs : RSh := ⟨[.one (.b (.b (.b (.b (.bool)))))], [none, none]⟩
noncomputable def spec_l01Same.gs (δ : Type) : List (Nat × Callee (GT tab) δ) := []
theorem spec_l01Same.gok (δ : Type) : AllCon Tryz.prog tab (spec_l01Same.gs δ) := .nil
noncomputable def spec_l01Same.c : Ctx (GT tab) (KT tab) (ResT tab spec_l01Same.rs) := { X := XT tab, ty := tyOf tys, inner := fun _ => true, keep := keepOf 0 spec_l01Same.ms, cuts := [], live := liveOf [(4, [0, 1, 5])], G := getG (spec_l01Same.gs _) }
noncomputable def spec_l01Same.b : Code := bodyOf Tryz.f127
noncomputable def spec_l01Same (x0 : List Int) (x1 : List Int) : Option (Bool) := callW spec_l01Same.c (fiOf (GT tab) Tryz.f127 spec_l01Same.ms) spec_l01Same.b (decRes tab spec_l01Same.rs) (encArgs tab spec_l01Same.as (x0, x1))
theorem spec_l01Same.fok : FnOk Tryz.prog 127 Tryz.f127 spec_l01Same.ms spec_l01Same.b := ⟨Tryz.func127, by kernel_rfl, by kernel_rfl⟩
noncomputable def spec_l01Same.fn : Args tab spec_l01Same.as → Option (ResT tab spec_l01Same.rs) := fun x => spec_l01Same x.1 x.2
theorem spec_l01Same.con {δ : Type} : Con Tryz.prog (KT tab) 127 (calleeS (β := δ) tab spec_l01Same.ms spec_l01Same.as spec_l01Same.rs spec_l01Same.fn) := con_shape (c := spec_l01Same.c) mixed tysOk (getG_con (spec_l01Same.gok _)) spec_l01Same.fok rfl rfl (fun _ => rfl)
noncomputable def spec_l01Same_l0 (v0 : List Int) (v1 : List Int) (v2 : Int) : Option (Bool) := Lw spec_l01Same.c (finish spec_l01Same.c (fiOf (GT tab) Tryz.f127 spec_l01Same.ms) (decRes tab spec_l01Same.rs)) ((loops spec_l01Same.c.cuts 1000 spec_l01Same.b []).getD 0 []) { slots := [.vs false 3 v0, .vs false 3 v1, .undef, .undef, .undef, .int .i64 v2, .undef, .undef, .undef, .undef, .undef, .undef, .undef, .undef, .undef, .undef, .undef, .undef, .undef, .undef, .undef, .undef, .undef, .undef, .undef, .undef], loc := locOf [], nx := 0 }
theorem spec_l01Same.eq (x0 : List Int) (x1 : List Int) : spec_l01Same x0 x1 =
    bif (x0.length : Int) != (x1.length : Int) then
      some false
    else
      spec_l01Same_l0 x0 x1 (0 : Int) := by kernel_rfl
theorem spec_l01Same_l0.eq (v0 : List Int) (v1 : List Int) (v2 : Int) : spec_l01Same_l0 v0 v1 v2 =
    bif decide (v2 < (v0.length : Int)) then
      (at? v0 v2).bind fun y1 =>
      (at? v1 v2).bind fun y2 =>
      bif y1 != y2 then
        some false
      else
        spec_l01Same_l0 v0 v1 (IntKind.i64.wrap (v2 + (1 : Int)))
    else
      some true := (Lw_eq tysOk (getG_con (spec_l01Same.gok _)) _ _).trans (by kernel_rfl)

/-! ### spec_BwtText: loop.example/g00688/spec.BwtText -/
def spec_BwtText.ms : List Mode := [.lend]
def spec_BwtText.as : List VSh := [.one (.b (.b (.b (.b (.sl false false 3)))))]
def spec_BwtText.rs : RSh := ⟨[.one (.b (.b (.b (.b (.sl true true 5))))), .one (.b (.b (.b (.b (.bool)))))], [none]⟩
noncomputable def spec_BwtText.gs (δ : Type) : List (Nat × Callee (GT tab) δ) := [(80, calleeS tab spec_LfOf.ms spec_LfOf.as spec_LfOf.rs spec_LfOf.fn), (81, calleeS tab spec_BwtOf.ms spec_BwtOf.as spec_BwtOf.rs spec_BwtOf.fn), (127, calleeS tab spec_l01Same.ms spec_l01Same.as spec_l01Same.rs spec_l01Same.fn), (137, calleeS tab spec_SymsOk.ms spec_SymsOk.as spec_SymsOk.rs spec_SymsOk.fn)]
theorem spec_BwtText.gok (δ : Type) : AllCon Tryz.prog tab (spec_BwtText.gs δ) := .cons spec_LfOf.con (.cons spec_BwtOf.con (.cons spec_l01Same.con (.cons spec_SymsOk.con (.nil))))
noncomputable def spec_BwtText.c : Ctx (GT tab) (KT tab) (ResT tab spec_BwtText.rs) := { X := XT tab, ty := tyOf tys, inner := fun _ => true, keep := keepOf 0 spec_BwtText.ms, cuts := [3, 9], live := liveOf [(3, [0]), (7, [0, 4, 5, 6, 7]), (9, [0, 4, 5, 6, 7])], G := getG (spec_BwtText.gs _) }
noncomputable def spec_BwtText.b : Code := bodyOf Tryz.f125
noncomputable def spec_BwtText (x0 : List Int) : Option ((List Int) × Bool) := callW spec_BwtText.c (fiOf (GT tab) Tryz.f125 spec_BwtText.ms) spec_BwtText.b (decRes tab spec_BwtText.rs) (encArgs tab spec_BwtText.as x0)
theorem spec_BwtText.fok : FnOk Tryz.prog 125 Tryz.f125 spec_BwtText.ms spec_BwtText.b := ⟨Tryz.func125, by kernel_rfl, by kernel_rfl⟩
noncomputable def spec_BwtText.fn : Args tab spec_BwtText.as → Option (ResT tab spec_BwtText.rs) := fun x => spec_BwtText x
theorem spec_BwtText.con {δ : Type} : Con Tryz.prog (KT tab) 125 (calleeS (β := δ) tab spec_BwtText.ms spec_BwtText.as spec_BwtText.rs spec_BwtText.fn) := con_shape (c := spec_BwtText.c) mixed tysOk (getG_con (spec_BwtText.gok _)) spec_BwtText.fok rfl rfl (fun _ => rfl)
noncomputable def spec_BwtText_l0 (v0 : List Int) : Option ((List Int) × Bool) := Lw spec_BwtText.c (finish spec_BwtText.c (fiOf (GT tab) Tryz.f125 spec_BwtText.ms) (decRes tab spec_BwtText.rs)) ((loops spec_BwtText.c.cuts 1000 spec_BwtText.b []).getD 0 []) { slots := [.vs false 3 v0, .undef, .undef, .undef, .undef, .undef, .undef, .undef, .undef, .undef, .undef, .undef, .undef, .undef, .undef, .undef, .undef, .undef, .undef, .undef, .undef, .undef, .undef, .undef, .undef, .undef, .undef, .undef, .undef, .undef, .undef, .undef, .undef, .undef, .undef, .undef, .undef, .undef, .undef, .undef, .undef, .undef, .undef, .undef, .undef, .undef, .undef, .undef, .undef, .undef, .undef, .undef], loc := locOf [], nx := 0 }
noncomputable def spec_BwtText_l1 (v0 : List Int) (v1 : Int) (v2 : Int) (v3 : List Int) (v4 : List Int) : Option ((List Int) × Bool) := Lw spec_BwtText.c (finish spec_BwtText.c (fiOf (GT tab) Tryz.f125 spec_BwtText.ms) (decRes tab spec_BwtText.rs)) ((loops spec_BwtText.c.cuts 1000 spec_BwtText.b []).getD 1 []) { slots := [.vs false 3 v0, .undef, .undef, .undef, .sl 0 0, .sl 1 0, .int .i64 v1, .int .i64 v2, .undef, .undef, .undef, .undef, .undef, .undef, .undef, .undef, .undef, .undef, .undef, .undef, .undef, .undef, .undef, .undef, .undef, .undef, .undef, .undef, .undef, .undef, .undef, .undef, .undef, .undef, .undef, .undef, .undef, .undef, .undef, .undef, .undef, .undef, .undef, .undef, .undef, .undef, .undef, .undef, .undef, .undef, .undef, .undef], loc := locOf [.row 0 true 3 v3, .row 0 true 5 v4], nx := 2 }
noncomputable def spec_BwtText_l2 (v0 : List Int) (v1 : Int) (v2 : Int) (v3 : List Int) (v4 : List Int) : Option ((List Int) × Bool) := Lw spec_BwtText.c (finish spec_BwtText.c (fiOf (GT tab) Tryz.f125 spec_BwtText.ms) (decRes tab spec_BwtText.rs)) ((loops spec_BwtText.c.cuts 1000 spec_BwtText.b []).getD 2 []) { slots := [.vs false 3 v0, .undef, .undef, .undef, .sl 0 0, .sl 1 0, .int .i64 v1, .int .i64 v2, .undef, .undef, .undef, .undef, .undef, .undef, .undef, .undef, .undef, .undef, .undef, .undef, .undef, .undef, .undef, .undef, .undef, .undef, .undef, .undef, .undef, .undef, .undef, .undef, .undef, .undef, .undef, .undef, .undef, .undef, .undef, .undef, .undef, .undef, .undef, .undef, .undef, .undef, .undef, .undef, .undef, .undef, .undef, .undef], loc := locOf [.row 0 true 3 v3, .row 0 true 5 v4], nx := 2 }
theorem spec_BwtText.eq (x0 : List Int) : spec_BwtText x0 =
    (spec_SymsOk x0).bind fun y1 =>
    bif !y1 then
      some (([] : List Int), false)
    else
      bif (x0.length : Int) == (0 : Int) then
        some (([] : List Int), false)
      else
        spec_BwtText_l0 x0 := by kernel_rfl
theorem spec_BwtText_l0.eq (v0 : List Int) : spec_BwtText_l0 v0 =
    (spec_LfOf v0).bind fun y1 =>
    spec_BwtText_l1 v0 (0 : Int) (0 : Int) y1 ([] : List Int) := (Lw_eq tysOk (getG_con (spec_BwtText.gok _)) _ _).trans (by kernel_rfl)
theorem spec_BwtText_l1.eq (v0 : List Int) (v1 : Int) (v2 : Int) (v3 : List Int) (v4 : List Int) : spec_BwtText_l1 v0 v1 v2 v3 v4 =
    bif decide (v2 < IntKind.i64.wrap ((v0.length : Int) - (1 : Int))) then
      (at? v0 v1).bind fun y1 =>
      bif decide (y1 > (0 : Int)) then
        spec_BwtText_l2 v0 v1 v2 v3 v4
      else
        (spec_BwtOf v4).bind fun y2 =>
        (spec_l01Same y2 v0).bind fun y3 =>
        bif !y3 then
          some (([] : List Int), false)
        else
          some (v4, true)
    else
      (spec_BwtOf v4).bind fun y4 =>
      (spec_l01Same y4 v0).bind fun y5 =>
      bif !y5 then
        some (([] : List Int), false)
      else
        some (v4, true) := (Lw_eq tysOk (getG_con (spec_BwtText.gok _)) _ _).trans (by kernel_rfl)
theorem spec_BwtText_l2.eq (v0 : List Int) (v1 : Int) (v2 : Int) (v3 : List Int) (v4 : List Int) : spec_BwtText_l2 v0 v1 v2 v3 v4 =
    (at? v0 v1).bind fun y1 =>
    bif decide ((([IntKind.u8.wrap (IntKind.i64.wrap (y1 - (1 : Int)))] : List Int).length + v4.length) * 1 ≤ 140737488355328) then
      (at? v3 v1).bind fun y2 =>
      v3[v1.toNat]?.bind fun y3 =>
      spec_BwtText_l1 v0 y3 (IntKind.i64.wrap (v2 + (1 : Int))) v3 (([IntKind.u8.wrap (IntKind.i64.wrap (y1 - (1 : Int)))] : List Int) ++ v4)
    else
      none := (Lw_eq tysOk (getG_con (spec_BwtText.gok _)) _ _).trans (by kernel_rfl)

/-! ### spec_l03Same: loop.example/g00688/spec.l03Same -/
def spec_l03Same.ms : List Mode := [.lend, .lend]
def spec_l03Same.as : List VSh := [.agg [.int .i64, .sl false false 126], .agg [.int .i64, .sl false false 126]]
def spec_l03Same.rs : RSh := ⟨[.one (.b (.b (.b (.b (.bool)))))], [none, none]⟩
noncomputable def spec_l03Same.gs (δ : Type) : List (Nat × Callee (GT tab) δ) := []
theorem spec_l03Same.gok (δ : Type) : AllCon Tryz.prog tab (spec_l03Same.gs δ) := .nil
noncomputable def spec_l03Same.c : Ctx (GT tab) (KT tab) (ResT tab spec_l03Same.rs) := { X := XT tab, ty := tyOf tys, inner := fun _ => true, keep := keepOf 0 spec_l03Same.ms, cuts := [3], live := liveOf [(3, [2, 3]), (4, [2, 3, 5])], G := getG (spec_l03Same.gs _) }
noncomputable def spec_l03Same.b : Code := bodyOf Tryz.f128
noncomputable def spec_l03Same (x0 : Int × (List Int)) (x1 : Int × (List Int)) : Option (Bool) := callW spec_l03Same.c (fiOf (GT tab) Tryz.f128 spec_l03Same.ms) spec_l03Same.b (decRes tab spec_l03Same.rs) (encArgs tab spec_l03Same.as (x0, x1))
theorem spec_l03Same.fok : FnOk Tryz.prog 128 Tryz.f128 spec_l03Same.ms spec_l03Same.b := ⟨Tryz.func128, by kernel_rfl, by kernel_rfl⟩
noncomputable def spec_l03Same.fn : Args tab spec_l03Same.as → Option (ResT tab spec_l03Same.rs) := fun x => spec_l03Same x.1 x.2
theorem spec_l03Same.con {δ : Type} : Con Tryz.prog (KT tab) 128 (calleeS (β := δ) tab spec_l03Same.ms spec_l03Same.as spec_l03Same.rs spec_l03Same.fn) := con_shape (c := spec_l03Same.c) mixed tysOk (getG_con (spec_l03Same.gok _)) spec_l03Same.fok rfl rfl (fun _ => rfl)
noncomputable def spec_l03Same_l0 (v0 : Int) (v1 : List Int) (v2 : Int) (v3 : List Int) : Option (Bool) := Lw spec_l03Same.c (finish spec_l03Same.c (fiOf (GT tab) Tryz.f128 spec_l03Same.ms) (decRes tab spec_l03Same.rs)) ((loops spec_l03Same.c.cuts 1000 spec_l03Same.b []).getD 0 []) { slots := [.undef, .undef, .ptr 0 0, .ptr 1 0, .undef, .undef, .undef, .undef, .undef, .undef, .undef, .undef, .undef, .undef, .undef, .undef, .undef, .undef, .undef, .undef, .undef, .undef, .undef, .undef, .undef, .undef, .undef, .undef, .undef, .undef, .undef, .undef, .undef, .undef, .undef, .undef, .undef, .undef], loc := locOf [.box 30 [.int .i64 v0, .vs false 126 v1], .box 30 [.int .i64 v2, .vs false 126 v3]], nx := 2 }
noncomputable def spec_l03Same_l1 (v0 : Int) (v1 : Int) (v2 : List Int) (v3 : Int) (v4 : List Int) : Option (Bool) := Lw spec_l03Same.c (finish spec_l03Same.c (fiOf (GT tab) Tryz.f128 spec_l03Same.ms) (decRes tab spec_l03Same.rs)) ((loops spec_l03Same.c.cuts 1000 spec_l03Same.b []).getD 1 []) { slots := [.undef, .undef, .ptr 0 0, .ptr 1 0, .undef, .int .i64 v0, .undef, .undef, .undef, .undef, .undef, .undef, .undef, .undef, .undef, .undef, .undef, .undef, .undef, .undef, .undef, .undef, .undef, .undef, .undef, .undef, .undef, .undef, .undef, .undef, .undef, .undef, .undef, .undef, .undef, .undef, .undef, .undef], loc := locOf [.box 30 [.int .i64 v1, .vs false 126 v2], .box 30 [.int .i64 v3, .vs false 126 v4]], nx := 2 }
theorem spec_l03Same.eq (x0 : Int × (List Int)) (x1 : Int × (List Int)) : spec_l03Same x0 x1 =
    bif x0.1 != x1.1 then
      some false
    else
      bif (x0.2.length : Int) != (x1.2.length : Int) then
        some false
      else
        spec_l03Same_l0 x0.1 x0.2 x1.1 x1.2 := by kernel_rfl
theorem spec_l03Same_l0.eq (v0 : Int) (v1 : List Int) (v2 : Int) (v3 : List Int) : spec_l03Same_l0 v0 v1 v2 v3 =
    spec_l03Same_l1 (0 : Int) v0 v1 v2 v3 := (Lw_eq tysOk (getG_con (spec_l03Same.gok _)) _ _).trans (by kernel_rfl)
theorem spec_l03Same_l1.eq (v0 : Int) (v1 : Int) (v2 : List Int) (v3 : Int) (v4 : List Int) : spec_l03Same_l1 v0 v1 v2 v3 v4 =
    bif decide (v0 < (v2.length : Int)) then
      (at? v2 v0).bind fun y1 =>
      (at? v4 v0).bind fun y2 =>
      bif y1 != y2 then
        some false
      else
        spec_l03Same_l1 (IntKind.i64.wrap (v0 + (1 : Int))) v1 v2 v3 v4
    else
      some true := (Lw_eq tysOk (getG_con (spec_l03Same.gok _)) _ _).trans (by kernel_rfl)

/-! ### spec_l09Packs: loop.example/g00688/spec.l09Packs -/
def spec_l09Packs.ms : List Mode := [.lend, .lend]
def spec_l09Packs.as : List VSh := [.agg [.int .i64, .int .i64, .int .i64, .sl false false 126], .agg [.int .i64, .int .i64, .int .i64, .sl false false 126]]
def spec_l09Packs.rs : RSh := ⟨[.one (.b (.b (.b (.b (.bool)))))], [none, none]⟩
noncomputable def spec_l09Packs.gs (δ : Type) : List (Nat × Callee (GT tab) δ) := [(128, calleeS tab spec_l03Same.ms spec_l03Same.as spec_l03Same.rs spec_l03Same.fn)]
theorem spec_l09Packs.gok (δ : Type) : AllCon Tryz.prog tab (spec_l09Packs.gs δ) := .cons spec_l03Same.con (.nil)
noncomputable def spec_l09Packs.c : Ctx (GT tab) (KT tab) (ResT tab spec_l09Packs.rs) := { X := XT tab, ty := tyOf tys, inner := fun _ => true, keep := keepOf 0 spec_l09Packs.ms, cuts := [], live := liveOf [], G := getG (spec_l09Packs.gs _) }
noncomputable def spec_l09Packs.b : Code := bodyOf Tryz.f129
noncomputable def spec_l09Packs (x0 : Int × Int × Int × (List Int)) (x1 : Int × Int × Int × (List Int)) : Option (Bool) := callW spec_l09Packs.c (fiOf (GT tab) Tryz.f129 spec_l09Packs.ms) spec_l09Packs.b (decRes tab spec_l09Packs.rs) (encArgs tab spec_l09Packs.as (x0, x1))
theorem spec_l09Packs.fok : FnOk Tryz.prog 129 Tryz.f129 spec_l09Packs.ms spec_l09Packs.b := ⟨Tryz.func129, by kernel_rfl, by kernel_rfl⟩
noncomputable def spec_l09Packs.fn : Args tab spec_l09Packs.as → Option (ResT tab spec_l09Packs.rs) := fun x => spec_l09Packs x.1 x.2
theorem spec_l09Packs.con {δ : Type} : Con Tryz.prog (KT tab) 129 (calleeS (β := δ) tab spec_l09Packs.ms spec_l09Packs.as spec_l09Packs.rs spec_l09Packs.fn) := con_shape (c := spec_l09Packs.c) mixed tysOk (getG_con (spec_l09Packs.gok _)) spec_l09Packs.fok rfl rfl (fun _ => rfl)
theorem spec_l09Packs.eq (x0 : Int × Int × Int × (List Int)) (x1 : Int × Int × Int × (List Int)) : spec_l09Packs x0 x1 =
    bif x0.1 == x1.1 then
      bif x0.2.1 == x1.2.1 then
        (spec_l03Same (x0.2.2.1, x0.2.2.2) (x1.2.2.1, x1.2.2.2)).bind fun y1 =>
        some y1
      else
        some false
    else
      some false := by kernel_rfl

/-! ### spec_l09Text: loop.example/g00688/spec.l09Text -/
def spec_l09Text.ms : List Mode := [.lend]
def spec_l09Text.as : List VSh := [.agg [.int .i64, .int .i64, .int .i64, .sl false false 3, .sl false false 30, .sl false false 3, .int .i64, .sl false false 126, .int .i64, .int .i64, .int .i64, .sl false false 126, .int .i64, .int .i64, .int .i64, .sl false false 126]]
def spec_l09Text.rs : RSh := ⟨[.one (.b (.b (.b (.b (.sl true true 5))))), .one (.b (.b (.b (.b (.bool)))))], [none]⟩
noncomputable def spec_l09Text.gs (δ : Type) : List (Nat × Callee (GT tab) δ) := [(111, calleeS tab spec_FmOf.ms spec_FmOf.as spec_FmOf.rs spec_FmOf.fn), (124, calleeS tab spec_l09Rate.ms spec_l09Rate.as spec_l09Rate.rs spec_l09Rate.fn), (125, calleeS tab spec_BwtText.ms spec_BwtText.as spec_BwtText.rs spec_BwtText.fn), (126, calleeS tab spec_WaveList.ms spec_WaveList.as spec_WaveList.rs spec_WaveList.fn), (127, calleeS tab spec_l01Same.ms spec_l01Same.as spec_l01Same.rs spec_l01Same.fn), (128, calleeS tab spec_l03Same.ms spec_l03Same.as spec_l03Same.rs spec_l03Same.fn), (129, calleeS tab spec_l09Packs.ms spec_l09Packs.as spec_l09Packs.rs spec_l09Packs.fn)]
theorem spec_l09Text.gok (δ : Type) : AllCon Tryz.prog tab (spec_l09Text.gs δ) := .cons spec_FmOf.con (.cons spec_l09Rate.con (.cons spec_BwtText.con (.cons spec_WaveList.con (.cons spec_l01Same.con (.cons spec_l03Same.con (.cons spec_l09Packs.con (.nil)))))))
noncomputable def spec_l09Text.c : Ctx (GT tab) (KT tab) (ResT tab spec_l09Text.rs) := { X := XT tab, ty := tyOf tys, inner := fun _ => true, keep := keepOf 0 spec_l09Text.ms, cuts := [3], live := liveOf [(3, [1])], G := getG (spec_l09Text.gs _) }
noncomputable def spec_l09Text.b : Code := bodyOf Tryz.f60
noncomputable def spec_l09Text (x0 : Int × Int × Int × (List Int) × (List (Int × (List Int))) × (List Int) × Int × (List Int) × Int × Int × Int × (List Int) × Int × Int × Int × (List Int)) : Option ((List Int) × Bool) := callW spec_l09Text.c (fiOf (GT tab) Tryz.f60 spec_l09Text.ms) spec_l09Text.b (decRes tab spec_l09Text.rs) (encArgs tab spec_l09Text.as x0)
theorem spec_l09Text.fok : FnOk Tryz.prog 60 Tryz.f60 spec_l09Text.ms spec_l09Text.b := ⟨Tryz.func60, by kernel_rfl, by kernel_rfl⟩
noncomputable def spec_l09Text.fn : Args tab spec_l09Text.as → Option (ResT tab spec_l09Text.rs) := fun x => spec_l09Text x
theorem spec_l09Text.con {δ : Type} : Con Tryz.prog (KT tab) 60 (calleeS (β := δ) tab spec_l09Text.ms spec_l09Text.as spec_l09Text.rs spec_l09Text.fn) := con_shape (c := spec_l09Text.c) mixed tysOk (getG_con (spec_l09Text.gok _)) spec_l09Text.fok rfl rfl (fun _ => rfl)
noncomputable def spec_l09Text_l0 (v0 : Int) (v1 : Int) (v2 : Int) (v3 : List Int) (v4 : List (Int × (List Int))) (v5 : List Int) (v6 : Int) (v7 : List Int) (v8 : Int) (v9 : Int) (v10 : Int) (v11 : List Int) (v12 : Int) (v13 : Int) (v14 : Int) (v15 : List Int) : Option ((List Int) × Bool) := Lw spec_l09Text.c (finish spec_l09Text.c (fiOf (GT tab) Tryz.f60 spec_l09Text.ms) (decRes tab spec_l09Text.rs)) ((loops spec_l09Text.c.cuts 1000 spec_l09Text.b []).getD 0 []) { slots := [.undef, .ptr 0 0, .undef, .undef, .undef, .undef, .undef, .undef, .undef, .undef, .undef, .undef, .undef, .undef, .undef, .undef, .undef, .undef, .undef, .undef, .undef, .undef, .undef, .undef, .undef, .undef, .undef, .undef, .undef, .undef, .undef, .undef, .undef, .undef, .undef, .undef, .undef, .undef, .undef, .undef, .undef, .undef, .undef, .undef, .undef, .undef, .undef, .undef, .undef, .undef, .undef, .undef, .undef, .undef, .undef, .undef, .undef, .undef, .undef, .undef, .undef, .undef, .undef, .undef, .undef, .undef, .undef, .undef, .undef, .undef, .undef, .undef], loc := locOf [.box 34 [.int .i64 v0, .int .i64 v1, .int .i64 v2, .vs false 3 v3, .vs false 30 v4, .vs false 3 v5, .int .i64 v6, .vs false 126 v7, .int .i64 v8, .int .i64 v9, .int .i64 v10, .vs false 126 v11, .int .i64 v12, .int .i64 v13, .int .i64 v14, .vs false 126 v15]], nx := 1 }
theorem spec_l09Text.eq (x0 : Int × Int × Int × (List Int) × (List (Int × (List Int))) × (List Int) × Int × (List Int) × Int × Int × Int × (List Int) × Int × Int × Int × (List Int)) : spec_l09Text x0 =
    (spec_l09Rate x0.2.1).bind fun y1 =>
    bif !y1 then
      some (([] : List Int), false)
    else
      bif decide (x0.2.2.1 > (301 : Int)) then
        some (([] : List Int), false)
      else
        spec_l09Text_l0 x0.1 x0.2.1 x0.2.2.1 x0.2.2.2.1 x0.2.2.2.2.1 x0.2.2.2.2.2.1 x0.2.2.2.2.2.2.1 x0.2.2.2.2.2.2.2.1 x0.2.2.2.2.2.2.2.2.1 x0.2.2.2.2.2.2.2.2.2.1 x0.2.2.2.2.2.2.2.2.2.2.1 x0.2.2.2.2.2.2.2.2.2.2.2.1 x0.2.2.2.2.2.2.2.2.2.2.2.2.1 x0.2.2.2.2.2.2.2.2.2.2.2.2.2.1 x0.2.2.2.2.2.2.2.2.2.2.2.2.2.2.1 x0.2.2.2.2.2.2.2.2.2.2.2.2.2.2.2 := by kernel_rfl
theorem spec_l09Text_l0.eq (v0 : Int) (v1 : Int) (v2 : Int) (v3 : List Int) (v4 : List (Int × (List Int))) (v5 : List Int) (v6 : Int) (v7 : List Int) (v8 : Int) (v9 : Int) (v10 : Int) (v11 : List Int) (v12 : Int) (v13 : Int) (v14 : Int) (v15 : List Int) : spec_l09Text_l0 v0 v1 v2 v3 v4 v5 v6 v7 v8 v9 v10 v11 v12 v13 v14 v15 =
    (spec_WaveList (v2, v3, v4)).bind fun y1 =>
    (spec_BwtText y1).bind fun y2 =>
    bif !y2.2 then
      some (([] : List Int), false)
    else
      (spec_FmOf y2.1 v1).bind fun y3 =>
      bif v0 != y3.1.1 then
        some (([] : List Int), false)
      else
        (spec_l01Same v5 y3.1.2.2.2.2.2.1).bind fun y4 =>
        bif !y4 then
          some (([] : List Int), false)
        else
          (spec_l03Same (v6, v7) (y3.1.2.2.2.2.2.2.1, y3.1.2.2.2.2.2.2.2.1)).bind fun y5 =>
          bif !y5 then
            some (([] : List Int), false)
          else
            (spec_l09Packs (v8, v9, v10, v11) (y3.1.2.2.2.2.2.2.2.2.1, y3.1.2.2.2.2.2.2.2.2.2.1, y3.1.2.2.2.2.2.2.2.2.2.2.1, y3.1.2.2.2.2.2.2.2.2.2.2.2.1)).bind fun y6 =>
            bif !y6 then
              some (([] : List Int), false)
            else
              (spec_l09Packs (v12, v13, v14, v15) (y3.1.2.2.2.2.2.2.2.2.2.2.2.2.1, y3.1.2.2.2.2.2.2.2.2.2.2.2.2.2.1, y3.1.2.2.2.2.2.2.2.2.2.2.2.2.2.2.1, y3.1.2.2.2.2.2.2.2.2.2.2.2.2.2.2.2)).bind fun y7 =>
              bif !y7 then
                some (([] : List Int), false)
              else
                some (y2.1, true) := (Lw_eq tysOk (getG_con (spec_l09Text.gok _)) _ _).trans (by kernel_rfl)

/-! ### impl_within: loop.example/g00688/impl.within -/
def impl_within.ms : List Mode := [.lend, .lend, .lend]
def impl_within.as : List VSh := [.one (.b (.b (.b (.b (.int .i64))))), .one (.b (.b (.b (.b (.int .i64))))), .one (.b (.b (.b (.b (.int .i64)))))]
def impl_within.rs : RSh := ⟨[.one (.b (.b (.b (.b (.bool)))))], [none, none, none]⟩
noncomputable def impl_within.gs (δ : Type) : List (Nat × Callee (GT tab) δ) := []
theorem impl_within.gok (δ : Type) : AllCon Tryz.prog tab (impl_within.gs δ) := .nil
noncomputable def impl_within.c : Ctx (GT tab) (KT tab) (ResT tab impl_within.rs) := { X := XT tab, ty := tyOf tys, inner := fun _ => true, keep := keepOf 0 impl_within.ms, cuts := [], live := liveOf [], G := getG (impl_within.gs _) }
noncomputable def impl_within.b : Code := bodyOf Tryz.f63
noncomputable def impl_within (x0 : Int) (x1 : Int) (x2 : Int) : Option (Bool) := callW impl_within.c (fiOf (GT tab) Tryz.f63 impl_within.ms) impl_within.b (decRes tab impl_within.rs) (encArgs tab impl_within.as (x0, x1, x2))
theorem impl_within.fok : FnOk Tryz.prog 63 Tryz.f63 impl_within.ms impl_within.b := ⟨Tryz.func63, by kernel_rfl, by kernel_rfl⟩
noncomputable def impl_within.fn : Args tab impl_within.as → Option (ResT tab impl_within.rs) := fun x => impl_within x.1 x.2.1 x.2.2
theorem impl_within.con {δ : Type} : Con Tryz.prog (KT tab) 63 (calleeS (β := δ) tab impl_within.ms impl_within.as impl_within.rs impl_within.fn) := con_shape (c := impl_within.c) mixed tysOk (getG_con (impl_within.gok _)) impl_within.fok rfl rfl (fun _ => rfl)
theorem impl_within.eq (x0 : Int) (x1 : Int) (x2 : Int) : impl_within x0 x1 x2 =
    bif decide (x1 ≤ x0) then
      some (decide (x0 ≤ x2))
    else
      some false := by kernel_rfl

/-! ### impl_BitsOk: loop.example/g00688/impl.BitsOk -/
def impl_BitsOk.ms : List Mode := [.lend]
def impl_BitsOk.as : List VSh := [.agg [.int .i64, .sl false false 126]]
def impl_BitsOk.rs : RSh := ⟨[.one (.b (.b (.b (.b (.bool)))))], [none]⟩
noncomputable def impl_BitsOk.gs (δ : Type) : List (Nat × Callee (GT tab) δ) := [(63, calleeS tab impl_within.ms impl_within.as impl_within.rs impl_within.fn)]
theorem impl_BitsOk.gok (δ : Type) : AllCon Tryz.prog tab (impl_BitsOk.gs δ) := .cons impl_within.con (.nil)
noncomputable def impl_BitsOk.c : Ctx (GT tab) (KT tab) (ResT tab impl_BitsOk.rs) := { X := XT tab, ty := tyOf tys, inner := fun _ => true, keep := keepOf 0 impl_BitsOk.ms, cuts := [], live := liveOf [], G := getG (impl_BitsOk.gs _) }
noncomputable def impl_BitsOk.b : Code := bodyOf Tryz.f66
noncomputable def impl_BitsOk (x0 : Int × (List Int)) : Option (Bool) := callW impl_BitsOk.c (fiOf (GT tab) Tryz.f66 impl_BitsOk.ms) impl_BitsOk.b (decRes tab impl_BitsOk.rs) (encArgs tab impl_BitsOk.as x0)
theorem impl_BitsOk.fok : FnOk Tryz.prog 66 Tryz.f66 impl_BitsOk.ms impl_BitsOk.b := ⟨Tryz.func66, by kernel_rfl, by kernel_rfl⟩
noncomputable def impl_BitsOk.fn : Args tab impl_BitsOk.as → Option (ResT tab impl_BitsOk.rs) := fun x => impl_BitsOk x
theorem impl_BitsOk.con {δ : Type} : Con Tryz.prog (KT tab) 66 (calleeS (β := δ) tab impl_BitsOk.ms impl_BitsOk.as impl_BitsOk.rs impl_BitsOk.fn) := con_shape (c := impl_BitsOk.c) mixed tysOk (getG_con (impl_BitsOk.gok _)) impl_BitsOk.fok rfl rfl (fun _ => rfl)
theorem impl_BitsOk.eq (x0 : Int × (List Int)) : impl_BitsOk x0 =
    (impl_within x0.1 (0 : Int) (5000 : Int)).bind fun y1 =>
    bif !y1 then
      some false
    else
      bif (x0.2.length : Int) != IntKind.i64.wrap ((IntKind.i64.wrap ((IntKind.i64.wrap (x0.1 + (64 : Int))) - (1 : Int))).tdiv (64 : Int)) then
        some false
      else
        bif x0.1.tmod (64 : Int) == (0 : Int) then
          some true
        else
          (at? x0.2 (IntKind.i64.wrap ((x0.2.length : Int) - (1 : Int)))).bind fun y2 =>
          bif decide (x0.1.tmod (64 : Int) < (0 : Int)) then
            none
          else
            some (y2.fdiv (2 ^ (min (x0.1.tmod (64 : Int)).toNat 64)) == (0 : Int)) := by kernel_rfl

/-! ### impl_Bits_at: (loop.example/g00688/impl.Bits).at -/
def impl_Bits_at.ms : List Mode := [.lend, .lend]
def impl_Bits_at.as : List VSh := [.agg [.int .i64, .sl false false 126], .one (.b (.b (.b (.b (.int .i64)))))]
def impl_Bits_at.rs : RSh := ⟨[.one (.b (.b (.b (.b (.int .i64)))))], [none, none]⟩
noncomputable def impl_Bits_at.gs (δ : Type) : List (Nat × Callee (GT tab) δ) := []
theorem impl_Bits_at.gok (δ : Type) : AllCon Tryz.prog tab (impl_Bits_at.gs δ) := .nil
noncomputable def impl_Bits_at.c : Ctx (GT tab) (KT tab) (ResT tab impl_Bits_at.rs) := { X := XT tab, ty := tyOf tys, inner := fun _ => true, keep := keepOf 0 impl_Bits_at.ms, cuts := [], live := liveOf [], G := getG (impl_Bits_at.gs _) }
noncomputable def impl_Bits_at.b : Code := bodyOf Tryz.f67
noncomputable def impl_Bits_at (x0 : Int × (List Int)) (x1 : Int) : Option (Int) := callW impl_Bits_at.c (fiOf (GT tab) Tryz.f67 impl_Bits_at.ms) impl_Bits_at.b (decRes tab impl_Bits_at.rs) (encArgs tab impl_Bits_at.as (x0, x1))
theorem impl_Bits_at.fok : FnOk Tryz.prog 67 Tryz.f67 impl_Bits_at.ms impl_Bits_at.b := ⟨Tryz.func67, by kernel_rfl, by kernel_rfl⟩
noncomputable def impl_Bits_at.fn : Args tab impl_Bits_at.as → Option (ResT tab impl_Bits_at.rs) := fun x => impl_Bits_at x.1 x.2
theorem impl_Bits_at.con {δ : Type} : Con Tryz.prog (KT tab) 67 (calleeS (β := δ) tab impl_Bits_at.ms impl_Bits_at.as impl_Bits_at.rs impl_Bits_at.fn) := con_shape (c := impl_Bits_at.c) mixed tysOk (getG_con (impl_Bits_at.gok _)) impl_Bits_at.fok rfl rfl (fun _ => rfl)
theorem impl_Bits_at.eq (x0 : Int × (List Int)) (x1 : Int) : impl_Bits_at x0 x1 =
    (at? x0.2 (IntKind.i64.wrap (x1.tdiv (64 : Int)))).bind fun y1 =>
    bif decide (x1.tmod (64 : Int) < (0 : Int)) then
      none
    else
      some (IntKind.i64.wrap (IntKind.u64.wrap (((BitVec.ofInt 64 (y1.fdiv (2 ^ (min (x1.tmod (64 : Int)).toNat 64)))) &&& (BitVec.ofInt 64 (1 : Int))).toNat : Int))) := by kernel_rfl

/-! ### impl_Bits_list: (loop.example/g00688/impl.Bits).list -/
def impl_Bits_list.ms : List Mode := [.lend]
def impl_Bits_list.as : List VSh := [.agg [.int .i64, .sl false false 126]]
def impl_Bits_list.rs : RSh := ⟨[.one (.b (.b (.b (.b (.sl true true 3)))))], [none]⟩
noncomputable def impl_Bits_list.gs (δ : Type) : List (Nat × Callee (GT tab) δ) := [(67, calleeS tab impl_Bits_at.ms impl_Bits_at.as impl_Bits_at.rs impl_Bits_at.fn)]
theorem impl_Bits_list.gok (δ : Type) : AllCon Tryz.prog tab (impl_Bits_list.gs δ) := .cons impl_Bits_at.con (.nil)
noncomputable def impl_Bits_list.c : Ctx (GT tab) (KT tab) (ResT tab impl_Bits_list.rs) := { X := XT tab, ty := tyOf tys, inner := fun _ => true, keep := keepOf 0 impl_Bits_list.ms, cuts := [], live := liveOf [(3, [1, 3, 6, 7])], G := getG (impl_Bits_list.gs _) }
noncomputable def impl_Bits_list.b : Code := bodyOf Tryz.f74
noncomputable def impl_Bits_list (x0 : Int × (List Int)) : Option (List Int) := callW impl_Bits_list.c (fiOf (GT tab) Tryz.f74 impl_Bits_list.ms) impl_Bits_list.b (decRes tab impl_Bits_list.rs) (encArgs tab impl_Bits_list.as x0)
theorem impl_Bits_list.fok : FnOk Tryz.prog 74 Tryz.f74 impl_Bits_list.ms impl_Bits_list.b := ⟨Tryz.func74, by kernel_rfl, by kernel_rfl⟩
noncomputable def impl_Bits_list.fn : Args tab impl_Bits_list.as → Option (ResT tab impl_Bits_list.rs) := fun x => impl_Bits_list x
theorem impl_Bits_list.con {δ : Type} : Con Tryz.prog (KT tab) 74 (calleeS (β := δ) tab impl_Bits_list.ms impl_Bits_list.as impl_Bits_list.rs impl_Bits_list.fn) := con_shape (c := impl_Bits_list.c) mixed tysOk (getG_con (impl_Bits_list.gok _)) impl_Bits_list.fok rfl rfl (fun _ => rfl)
noncomputable def impl_Bits_list_l0 (v0 : Int) (v1 : Int) (v2 : Int) (v3 : List Int) (v4 : List Int) : Option (List Int) := Lw impl_Bits_list.c (finish impl_Bits_list.c (fiOf (GT tab) Tryz.f74 impl_Bits_list.ms) (decRes tab impl_Bits_list.rs)) ((loops impl_Bits_list.c.cuts 1000 impl_Bits_list.b []).getD 0 []) { slots := [.undef, .ptr 0 0, .undef, .sl 1 0, .undef, .undef, .int .i64 v0, .int .i64 v1, .undef, .undef, .undef, .undef, .undef, .undef, .undef, .undef, .undef, .undef], loc := locOf [.box 30 [.int .i64 v2, .vs false 126 v3], .row 0 true 3 v4], nx := 2 }
theorem impl_Bits_list.eq (x0 : Int × (List Int)) : impl_Bits_list x0 =
    impl_Bits_list_l0 x0.1 (0 : Int) x0.1 x0.2 ([] : List Int) := by kernel_rfl
theorem impl_Bits_list_l0.eq (v0 : Int) (v1 : Int) (v2 : Int) (v3 : List Int) (v4 : List Int) : impl_Bits_list_l0 v0 v1 v2 v3 v4 =
    bif decide (v1 < v0) then
      (impl_Bits_at (v2, v3) v1).bind fun y1 =>
      bif decide ((v4.length + ([y1] : List Int).length) * 8 ≤ 140737488355328) then
        impl_Bits_list_l0 v0 (IntKind.i64.wrap (v1 + (1 : Int))) v2 v3 (v4 ++ ([y1] : List Int))
      else
        none
    else
      some v4 := (Lw_eq tysOk (getG_con (impl_Bits_list.gok _)) _ _).trans (by kernel_rfl)

/-! ### impl_BitsList: loop.example/g00688/impl.BitsList -/
def impl_BitsList.ms : List Mode := [.lend]
def impl_BitsList.as : List VSh := [.agg [.int .i64, .sl false false 126]]
def impl_BitsList.rs : RSh := ⟨[.one (.b (.b (.b (.b (.sl true true 3)))))], [none]⟩
noncomputable def impl_BitsList.gs (δ : Type) : List (Nat × Callee (GT tab) δ) := [(66, calleeS tab impl_BitsOk.ms impl_BitsOk.as impl_BitsOk.rs impl_BitsOk.fn), (74, calleeS tab impl_Bits_list.ms impl_Bits_list.as impl_Bits_list.rs impl_Bits_list.fn)]
theorem impl_BitsList.gok (δ : Type) : AllCon Tryz.prog tab (impl_BitsList.gs δ) := .cons impl_BitsOk.con (.cons impl_Bits_list.con (.nil))
noncomputable def impl_BitsList.c : Ctx (GT tab) (KT tab) (ResT tab impl_BitsList.rs) := { X := XT tab, ty := tyOf tys, inner := fun _ => true, keep := keepOf 0 impl_BitsList.ms, cuts := [], live := liveOf [], G := getG (impl_BitsList.gs _) }
noncomputable def impl_BitsList.b : Code := bodyOf Tryz.f177
noncomputable def impl_BitsList (x0 : Int × (List Int)) : Option (List Int) := callW impl_BitsList.c (fiOf (GT tab) Tryz.f177 impl_BitsList.ms) impl_BitsList.b (decRes tab impl_BitsList.rs) (encArgs tab impl_BitsList.as x0)
theorem impl_BitsList.fok : FnOk Tryz.prog 177 Tryz.f177 impl_BitsList.ms impl_BitsList.b := ⟨Tryz.func177, by kernel_rfl, by kernel_rfl⟩
noncomputable def impl_BitsList.fn : Args tab impl_BitsList.as → Option (ResT tab impl_BitsList.rs) := fun x => impl_BitsList x
theorem impl_BitsList.con {δ : Type} : Con Tryz.prog (KT tab) 177 (calleeS (β := δ) tab impl_BitsList.ms impl_BitsList.as impl_BitsList.rs impl_BitsList.fn) := con_shape (c := impl_BitsList.c) mixed tysOk (getG_con (impl_BitsList.gok _)) impl_BitsList.fok rfl rfl (fun _ => rfl)
theorem impl_BitsList.eq (x0 : Int × (List Int)) : impl_BitsList x0 =
    (impl_BitsOk (x0.1, x0.2)).bind fun y1 =>
    bif !y1 then
      some ([] : List Int)
    else
      (impl_Bits_list (x0.1, x0.2)).bind fun y2 =>
      some y2 := by kernel_rfl

/-! ### impl_count: loop.example/g00688/impl.count -/
def impl_count.ms : List Mode := [.lend, .lend]
def impl_count.as : List VSh := [.one (.b (.b (.b (.b (.sl false false 3))))), .one (.b (.b (.b (.b (.int .i64)))))]
def impl_count.rs : RSh := ⟨[.one (.b (.b (.b (.b (.int .i64)))))], [none, none]⟩
noncomputable def impl_count.gs (δ : Type) : List (Nat × Callee (GT tab) δ) := []
theorem impl_count.gok (δ : Type) : AllCon Tryz.prog tab (impl_count.gs δ) := .nil
noncomputable def impl_count.c : Ctx (GT tab) (KT tab) (ResT tab impl_count.rs) := { X := XT tab, ty := tyOf tys, inner := fun _ => true, keep := keepOf 0 impl_count.ms, cuts := [], live := liveOf [(3, [1, 5, 8, 9, 10])], G := getG (impl_count.gs _) }
noncomputable def impl_count.b : Code := bodyOf Tryz.f73
noncomputable def impl_count (x0 : List Int) (x1 : Int) : Option (Int) := callW impl_count.c (fiOf (GT tab) Tryz.f73 impl_count.ms) impl_count.b (decRes tab impl_count.rs) (encArgs tab impl_count.as (x0, x1))
theorem impl_count.fok : FnOk Tryz.prog 73 Tryz.f73 impl_count.ms impl_count.b := ⟨Tryz.func73, by kernel_rfl, by kernel_rfl⟩
noncomputable def impl_count.fn : Args tab impl_count.as → Option (ResT tab impl_count.rs) := fun x => impl_count x.1 x.2
theorem impl_count.con {δ : Type} : Con Tryz.prog (KT tab) 73 (calleeS (β := δ) tab impl_count.ms impl_count.as impl_count.rs impl_count.fn) := con_shape (c := impl_count.c) mixed tysOk (getG_con (impl_count.gok _)) impl_count.fok rfl rfl (fun _ => rfl)
noncomputable def impl_count_l0 (v0 : Int) (v1 : Int) (v2 : List Int) (v3 : Int) (v4 : Int) : Option (Int) := Lw impl_count.c (finish impl_count.c (fiOf (GT tab) Tryz.f73 impl_count.ms) (decRes tab impl_count.rs)) ((loops impl_count.c.cuts 1000 impl_count.b []).getD 0 []) { slots := [.undef, .int .i64 v0, .undef, .undef, .undef, .int .i64 v1, .undef, .undef, .vs false 3 v2, .int .i64 v3, .int .i64 v4, .undef, .undef, .undef, .undef, .undef, .undef, .undef, .undef, .undef, .undef], loc := locOf [], nx := 0 }
theorem impl_count.eq (x0 : List Int) (x1 : Int) : impl_count x0 x1 =
    impl_count_l0 x1 (0 : Int) x0 (x0.length : Int) (0 : Int) := by kernel_rfl
theorem impl_count_l0.eq (v0 : Int) (v1 : Int) (v2 : List Int) (v3 : Int) (v4 : Int) : impl_count_l0 v0 v1 v2 v3 v4 =
    bif decide (v4 < v3) then
      (at? v2 v4).bind fun y1 =>
      bif y1 == v0 then
        impl_count_l0 v0 (IntKind.i64.wrap (v1 + (1 : Int))) v2 v3 (IntKind.i64.wrap (v4 + (1 : Int)))
      else
        impl_count_l0 v0 v1 v2 v3 (IntKind.i64.wrap (v4 + (1 : Int)))
    else
      some v1 := (Lw_eq tysOk (getG_con (impl_count.gok _)) _ _).trans (by kernel_rfl)

/-! ### impl_Wave_read: (loop.example/g00688/impl.Wave).read -/
def impl_Wave_read.ms : List Mode := [.lend]
def impl_Wave_read.as : List VSh := [.agg [.int .i64, .sl false false 3, .sl false false 30]]
def impl_Wave_read.rs : RSh := ⟨[.one (.b (.b (.b (.b (.sl true true 3))))), .one (.b (.b (.b (.b (.bool)))))], [none]⟩
noncomputable def impl_Wave_read.gs (δ : Type) : List (Nat × Callee (GT tab) δ) := [(63, calleeS tab impl_within.ms impl_within.as impl_within.rs impl_within.fn), (66, calleeS tab impl_BitsOk.ms impl_BitsOk.as impl_BitsOk.rs impl_BitsOk.fn), (73, calleeS tab impl_count.ms impl_count.as impl_count.rs impl_count.fn), (177, calleeS tab impl_BitsList.ms impl_BitsList.as impl_BitsList.rs impl_BitsList.fn)]
theorem impl_Wave_read.gok (δ : Type) : AllCon Tryz.prog tab (impl_Wave_read.gs δ) := .cons impl_within.con (.cons impl_BitsOk.con (.cons impl_count.con (.cons impl_BitsList.con (.nil))))
noncomputable def impl_Wave_read.c : Ctx (GT tab) (KT tab) (ResT tab impl_Wave_read.rs) := { X := XT tab, ty := tyOf tys, inner := fun _ => true, keep := keepOf 0 impl_Wave_read.ms, cuts := [3, 15], live := liveOf [(3, [1]), (5, [1, 4, 5, 40, 41]), (10, [1, 4, 5, 50, 51, 52]), (15, [1, 4, 5, 7, 9, 50, 51, 52]), (17, [1, 4, 5, 9, 10, 11, 12, 50, 51, 52, 87, 88, 89]), (24, [1, 4, 5, 9, 10, 50, 51, 52, 109, 110, 111])], G := getG (impl_Wave_read.gs _) }
noncomputable def impl_Wave_read.b : Code := bodyOf Tryz.f120
noncomputable def impl_Wave_read (x0 : Int × (List Int) × (List (Int × (List Int)))) : Option ((List Int) × Bool) := callW impl_Wave_read.c (fiOf (GT tab) Tryz.f120 impl_Wave_read.ms) impl_Wave_read.b (decRes tab impl_Wave_read.rs) (encArgs tab impl_Wave_read.as x0)
theorem impl_Wave_read.fok : FnOk Tryz.prog 120 Tryz.f120 impl_Wave_read.ms impl_Wave_read.b := ⟨Tryz.func120, by kernel_rfl, by kernel_rfl⟩
noncomputable def impl_Wave_read.fn : Args tab impl_Wave_read.as → Option (ResT tab impl_Wave_read.rs) := fun x => impl_Wave_read x
theorem impl_Wave_read.con {δ : Type} : Con Tryz.prog (KT tab) 120 (calleeS (β := δ) tab impl_Wave_read.ms impl_Wave_read.as impl_Wave_read.rs impl_Wave_read.fn) := con_shape (c := impl_Wave_read.c) mixed tysOk (getG_con (impl_Wave_read.gok _)) impl_Wave_read.fok rfl rfl (fun _ => rfl)
noncomputable def impl_Wave_read_l0 (v0 : Int) (v1 : List Int) (v2 : List (Int × (List Int))) : Option ((List Int) × Bool) := Lw impl_Wave_read.c (finish impl_Wave_read.c (fiOf (GT tab) Tryz.f120 impl_Wave_read.ms) (decRes tab impl_Wave_read.rs)) ((loops impl_Wave_read.c.cuts 1000 impl_Wave_read.b []).getD 0 []) { slots := [.undef, .ptr 0 0, .undef, .undef, .undef, .undef, .undef, .undef, .undef, .undef, .undef, .undef, .undef, .undef, .undef, .undef, .undef, .undef, .undef, .undef, .undef, .undef, .undef, .undef, .undef, .undef, .undef, .undef, .undef, .undef, .undef, .undef, .undef, .undef, .undef, .undef, .undef, .undef, .undef, .undef, .undef, .undef, .undef, .undef, .undef, .undef, .undef, .undef, .undef, .undef, .undef, .undef, .undef, .undef, .undef, .undef, .undef, .undef, .undef, .undef, .undef, .undef, .undef, .undef, .undef, .undef, .undef, .undef, .undef, .undef, .undef, .undef, .undef, .undef, .undef, .undef, .undef, .undef, .undef, .undef, .undef, .undef, .undef, .undef, .undef, .undef, .undef, .undef, .undef, .undef, .undef, .undef, .undef, .undef, .undef, .undef, .undef, .undef, .undef, .undef, .undef, .undef, .undef, .undef, .undef, .undef, .undef, .undef, .undef, .undef, .undef, .undef, .undef, .undef, .undef, .undef, .undef, .undef, .undef, .undef, .undef, .undef, .undef, .undef, .undef, .undef, .undef, .undef, .undef, .undef, .undef, .undef, .undef, .undef, .undef, .undef, .undef, .undef, .undef], loc := locOf [.box 27 [.int .i64 v0, .vs false 3 v1, .vs false 30 v2]], nx := 1 }
noncomputable def impl_Wave_read_l1 (v0 : Int) (v1 : Int) (v2 : Int) (v3 : List Int) (v4 : List (Int × (List Int))) (v5 : List Int) (v6 : List Int) : Option ((List Int) × Bool) := Lw impl_Wave_read.c (finish impl_Wave_read.c (fiOf (GT tab) Tryz.f120 impl_Wave_read.ms) (decRes tab impl_Wave_read.rs)) ((loops impl_Wave_read.c.cuts 1000 impl_Wave_read.b []).getD 1 []) { slots := [.undef, .ptr 0 0, .undef, .undef, .sl 1 0, .sl 2 0, .undef, .undef, .undef, .undef, .undef, .undef, .undef, .undef, .undef, .undef, .undef, .undef, .undef, .undef, .undef, .undef, .undef, .undef, .undef, .undef, .undef, .undef, .undef, .undef, .undef, .undef, .undef, .undef, .undef, .undef, .undef, .undef, .undef, .undef, .int .i64 v0, .int .i64 v1, .undef, .undef, .undef, .undef, .undef, .undef, .undef, .undef, .undef, .undef, .undef, .undef, .undef, .undef, .undef, .undef, .undef, .undef, .undef, .undef, .undef, .undef, .undef, .undef, .undef, .undef, .undef, .undef, .undef, .undef, .undef, .undef, .undef, .undef, .undef, .undef, .undef, .undef, .undef, .undef, .undef, .undef, .undef, .undef, .undef, .undef, .undef, .undef, .undef, .undef, .undef, .undef, .undef, .undef, .undef, .undef, .undef, .undef, .undef, .undef, .undef, .undef, .undef, .undef, .undef, .undef, .undef, .undef, .undef, .undef, .undef, .undef, .undef, .undef, .undef, .undef, .undef, .undef, .undef, .undef, .undef, .undef, .undef, .undef, .undef, .undef, .undef, .undef, .undef, .undef, .undef, .undef, .undef, .undef, .undef, .undef, .undef], loc := locOf [.box 27 [.int .i64 v2, .vs false 3 v3, .vs false 30 v4], .row 0 true 3 v5, .row 0 true 3 v6], nx := 3 }
noncomputable def impl_Wave_read_l2 (v0 : List (Int × (List Int))) (v1 : Int) (v2 : Int) (v3 : Int) (v4 : List Int) (v5 : List (Int × (List Int))) (v6 : List Int) (v7 : List Int) : Option ((List Int) × Bool) := Lw impl_Wave_read.c (finish impl_Wave_read.c (fiOf (GT tab) Tryz.f120 impl_Wave_read.ms) (decRes tab impl_Wave_read.rs)) ((loops impl_Wave_read.c.cuts 1000 impl_Wave_read.b []).getD 2 []) { slots := [.undef, .ptr 0 0, .undef, .undef, .sl 1 0, .sl 2 0, .undef, .undef, .undef, .undef, .undef, .undef, .undef, .undef, .undef, .undef, .undef, .undef, .undef, .undef, .undef, .undef, .undef, .undef, .undef, .undef, .undef, .undef, .undef, .undef, .undef, .undef, .undef, .undef, .undef, .undef, .undef, .undef, .undef, .undef, .undef, .undef, .undef, .undef, .undef, .undef, .undef, .undef, .undef, .undef, .vs false 30 v0, .int .i64 v1, .int .i64 v2, .undef, .undef, .undef, .undef, .undef, .undef, .undef, .undef, .undef, .undef, .undef, .undef, .undef, .undef, .undef, .undef, .undef, .undef, .undef, .undef, .undef, .undef, .undef, .undef, .undef, .undef, .undef, .undef, .undef, .undef, .undef, .undef, .undef, .undef, .undef, .undef, .undef, .undef, .undef, .undef, .undef, .undef, .undef, .undef, .undef, .undef, .undef, .undef, .undef, .undef, .undef, .undef, .undef, .undef, .undef, .undef, .undef, .undef, .undef, .undef, .undef, .undef, .undef, .undef, .undef, .undef, .undef, .undef, .undef, .undef, .undef, .undef, .undef, .undef, .undef, .undef, .undef, .undef, .undef, .undef, .undef, .undef, .undef, .undef, .undef, .undef], loc := locOf [.box 27 [.int .i64 v3, .vs false 3 v4, .vs false 30 v5], .row 0 true 3 v6, .row 0 true 3 v7], nx := 3 }
noncomputable def impl_Wave_read_l3 (v0 : Int) (v1 : List (Int × (List Int))) (v2 : Int) (v3 : Int) (v4 : Int) (v5 : List Int) (v6 : List (Int × (List Int))) (v7 : List Int) (v8 : List Int) (v9 : List Int) : Option ((List Int) × Bool) := Lw impl_Wave_read.c (finish impl_Wave_read.c (fiOf (GT tab) Tryz.f120 impl_Wave_read.ms) (decRes tab impl_Wave_read.rs)) ((loops impl_Wave_read.c.cuts 1000 impl_Wave_read.b []).getD 3 []) { slots := [.undef, .ptr 0 0, .undef, .undef, .sl 1 0, .sl 2 0, .undef, .int .i64 v0, .undef, .sl 3 0, .undef, .undef, .undef, .undef, .undef, .undef, .undef, .undef, .undef, .undef, .undef, .undef, .undef, .undef, .undef, .undef, .undef, .undef, .undef, .undef, .undef, .undef, .undef, .undef, .undef, .undef, .undef, .undef, .undef, .undef, .undef, .undef, .undef, .undef, .undef, .undef, .undef, .undef, .undef, .undef, .vs false 30 v1, .int .i64 v2, .int .i64 v3, .undef, .undef, .undef, .undef, .undef, .undef, .undef, .undef, .undef, .undef, .undef, .undef, .undef, .undef, .undef, .undef, .undef, .undef, .undef, .undef, .undef, .undef, .undef, .undef, .undef, .undef, .undef, .undef, .undef, .undef, .undef, .undef, .undef, .undef, .undef, .undef, .undef, .undef, .undef, .undef, .undef, .undef, .undef, .undef, .undef, .undef, .undef, .undef, .undef, .undef, .undef, .undef, .undef, .undef, .undef, .undef, .undef, .undef, .undef, .undef, .undef, .undef, .undef, .undef, .undef, .undef, .undef, .undef, .undef, .undef, .undef, .undef, .undef, .undef, .undef, .undef, .undef, .undef, .undef, .undef, .undef, .undef, .undef, .undef, .undef, .undef], loc := locOf [.box 27 [.int .i64 v4, .vs false 3 v5, .vs false 30 v6], .row 0 true 3 v7, .row 0 true 3 v8, .row 0 true 3 v9], nx := 4 }
noncomputable def impl_Wave_read_l4 (v0 : Int) (v1 : Int) (v2 : List (Int × (List Int))) (v3 : Int) (v4 : Int) (v5 : Int) (v6 : Int) (v7 : Int) (v8 : List Int) (v9 : List (Int × (List Int))) (v10 : List Int) (v11 : List Int) (v12 : List Int) (v13 : List Int) : Option ((List Int) × Bool) := Lw impl_Wave_read.c (finish impl_Wave_read.c (fiOf (GT tab) Tryz.f120 impl_Wave_read.ms) (decRes tab impl_Wave_read.rs)) ((loops impl_Wave_read.c.cuts 1000 impl_Wave_read.b []).getD 4 []) { slots := [.undef, .ptr 0 0, .undef, .undef, .sl 1 0, .sl 2 0, .undef, .undef, .undef, .sl 3 0, .sl 4 0, .int .i64 v0, .int .i64 v1, .undef, .undef, .undef, .undef, .undef, .undef, .undef, .undef, .undef, .undef, .undef, .undef, .undef, .undef, .undef, .undef, .undef, .undef, .undef, .undef, .undef, .undef, .undef, .undef, .undef, .undef, .undef, .undef, .undef, .undef, .undef, .undef, .undef, .undef, .undef, .undef, .undef, .vs false 30 v2, .int .i64 v3, .int .i64 v4, .undef, .undef, .undef, .undef, .undef, .undef, .undef, .undef, .undef, .undef, .undef, .undef, .undef, .undef, .undef, .undef, .undef, .undef, .undef, .undef, .undef, .undef, .undef, .undef, .undef, .undef, .undef, .undef, .undef, .undef, .undef, .undef, .undef, .undef, .sl 3 0, .int .i64 v5, .int .i64 v6, .undef, .undef, .undef, .undef, .undef, .undef, .undef, .undef, .undef, .undef, .undef, .undef, .undef, .undef, .undef, .undef, .undef, .undef, .undef, .undef, .undef, .undef, .undef, .undef, .undef, .undef, .undef, .undef, .undef, .undef, .undef, .undef, .undef, .undef, .undef, .undef, .undef, .undef, .undef, .undef, .undef, .undef, .undef, .undef, .undef, .undef, .undef, .undef, .undef], loc := locOf [.box 27 [.int .i64 v7, .vs false 3 v8, .vs false 30 v9], .row 0 true 3 v10, .row 0 true 3 v11, .row 0 true 3 v12, .row 0 true 3 v13], nx := 5 }
noncomputable def impl_Wave_read_l5 (v0 : List (Int × (List Int))) (v1 : Int) (v2 : Int) (v3 : Int) (v4 : Int) (v5 : Int) (v6 : List Int) (v7 : List (Int × (List Int))) (v8 : List Int) (v9 : List Int) (v10 : List Int) (v11 : List Int) : Option ((List Int) × Bool) := Lw impl_Wave_read.c (finish impl_Wave_read.c (fiOf (GT tab) Tryz.f120 impl_Wave_read.ms) (decRes tab impl_Wave_read.rs)) ((loops impl_Wave_read.c.cuts 1000 impl_Wave_read.b []).getD 5 []) { slots := [.undef, .ptr 0 0, .undef, .undef, .sl 1 0, .sl 2 0, .undef, .undef, .undef, .sl 3 0, .sl 4 0, .undef, .undef, .undef, .undef, .undef, .undef, .undef, .undef, .undef, .undef, .undef, .undef, .undef, .undef, .undef, .undef, .undef, .undef, .undef, .undef, .undef, .undef, .undef, .undef, .undef, .undef, .undef, .undef, .undef, .undef, .undef, .undef, .undef, .undef, .undef, .undef, .undef, .undef, .undef, .vs false 30 v0, .int .i64 v1, .int .i64 v2, .undef, .undef, .undef, .undef, .undef, .undef, .undef, .undef, .undef, .undef, .undef, .undef, .undef, .undef, .undef, .undef, .undef, .undef, .undef, .undef, .undef, .undef, .undef, .undef, .undef, .undef, .undef, .undef, .undef, .undef, .undef, .undef, .undef, .undef, .undef, .undef, .undef, .undef, .undef, .undef, .undef, .undef, .undef, .undef, .undef, .undef, .undef, .undef, .undef, .undef, .undef, .undef, .undef, .undef, .undef, .undef, .sl 2 0, .int .i64 v3, .int .i64 v4, .undef, .undef, .undef, .undef, .undef, .undef, .undef, .undef, .undef, .undef, .undef, .undef, .undef, .undef, .undef, .undef, .undef, .undef, .undef, .undef, .undef, .undef, .undef, .undef, .undef, .undef, .undef], loc := locOf [.box 27 [.int .i64 v5, .vs false 3 v6, .vs false 30 v7], .row 0 true 3 v8, .row 0 true 3 v9, .row 0 true 3 v10, .row 0 true 3 v11], nx := 5 }
theorem impl_Wave_read.eq (x0 : Int × (List Int) × (List (Int × (List Int)))) : impl_Wave_read x0 =
    (impl_within x0.1 (0 : Int) (1000 : Int)).bind fun y1 =>
    bif !y1 then
      some (([] : List Int), false)
    else
      bif (x0.2.1.length : Int) != (9 : Int) then
        some (([] : List Int), false)
      else
        bif (x0.2.2.length : Int) != (9 : Int) then
          some (([] : List Int), false)
        else
          impl_Wave_read_l0 x0.1 x0.2.1 x0.2.2 := by kernel_rfl
theorem impl_Wave_read_l0.eq (v0 : Int) (v1 : List Int) (v2 : List (Int × (List Int))) : impl_Wave_read_l0 v0 v1 v2 =
    bif decide ((0 : Int) ≤ v0) && decide (v0.toNat * 8 ≤ 140737488355328) then
      bif decide ((0 : Int) ≤ v0) && decide (v0.toNat * 8 ≤ 140737488355328) then
        impl_Wave_read_l1 ((List.replicate v0.toNat (0 : Int)).length : Int) (0 : Int) v0 v1 v2 (List.replicate v0.toNat (0 : Int)) (List.replicate v0.toNat (0 : Int))
      else
        none
    else
      none := (Lw_eq tysOk (getG_con (impl_Wave_read.gok _)) _ _).trans (by kernel_rfl)
theorem impl_Wave_read_l1.eq (v0 : Int) (v1 : Int) (v2 : Int) (v3 : List Int) (v4 : List (Int × (List Int))) (v5 : List Int) (v6 : List Int) : impl_Wave_read_l1 v0 v1 v2 v3 v4 v5 v6 =
    bif decide (v1 < v0) then
      (at? v6 v1).bind fun y1 =>
      v6[v1.toNat]?.bind fun y2 =>
      impl_Wave_read_l1 v0 (IntKind.i64.wrap (v1 + (1 : Int))) v2 v3 v4 v5 (v6.set v1.toNat v1)
    else
      impl_Wave_read_l2 v4 (v4.length : Int) (0 : Int) v2 v3 v4 v5 v6 := (Lw_eq tysOk (getG_con (impl_Wave_read.gok _)) _ _).trans (by kernel_rfl)
theorem impl_Wave_read_l2.eq (v0 : List (Int × (List Int))) (v1 : Int) (v2 : Int) (v3 : Int) (v4 : List Int) (v5 : List (Int × (List Int))) (v6 : List Int) (v7 : List Int) : impl_Wave_read_l2 v0 v1 v2 v3 v4 v5 v6 v7 =
    bif decide (v2 < v1) then
      (at? v0 v2).bind fun y1 =>
      (impl_BitsList (y1.1, y1.2)).bind fun y2 =>
      (impl_BitsOk (y1.1, y1.2)).bind fun y3 =>
      bif !y3 then
        some (([] : List Int), false)
      else
        bif y1.1 != v3 then
          some (([] : List Int), false)
        else
          (impl_count y2 (0 : Int)).bind fun y4 =>
          (at? v4 v2).bind fun y5 =>
          bif y4 != y5 then
            some (([] : List Int), false)
          else
            impl_Wave_read_l3 v2 v0 v1 v2 v3 v4 v5 v6 v7 y2
    else
      some (v6, true) := (Lw_eq tysOk (getG_con (impl_Wave_read.gok _)) _ _).trans (by kernel_rfl)
theorem impl_Wave_read_l3.eq (v0 : Int) (v1 : List (Int × (List Int))) (v2 : Int) (v3 : Int) (v4 : Int) (v5 : List Int) (v6 : List (Int × (List Int))) (v7 : List Int) (v8 : List Int) (v9 : List Int) : impl_Wave_read_l3 v0 v1 v2 v3 v4 v5 v6 v7 v8 v9 =
    bif decide ((0 : Int) ≤ v4) && decide (v4.toNat * 8 ≤ 140737488355328) then
      (at? v5 v0).bind fun y1 =>
      impl_Wave_read_l4 (0 : Int) y1 v1 v2 v3 (v9.length : Int) (0 : Int) v4 v5 v6 v7 v8 v9 (List.replicate v4.toNat (0 : Int))
    else
      none := (Lw_eq tysOk (getG_con (impl_Wave_read.gok _)) _ _).trans (by kernel_rfl)
theorem impl_Wave_read_l4.eq (v0 : Int) (v1 : Int) (v2 : List (Int × (List Int))) (v3 : Int) (v4 : Int) (v5 : Int) (v6 : Int) (v7 : Int) (v8 : List Int) (v9 : List (Int × (List Int))) (v10 : List Int) (v11 : List Int) (v12 : List Int) (v13 : List Int) : impl_Wave_read_l4 v0 v1 v2 v3 v4 v5 v6 v7 v8 v9 v10 v11 v12 v13 =
    bif decide (v6 < v5) then
      (at? v12 v6).bind fun y1 =>
      v12[v6.toNat]?.bind fun y2 =>
      bif y2 == (0 : Int) then
        (at? v13 v6).bind fun y3 =>
        v13[v6.toNat]?.bind fun y4 =>
        impl_Wave_read_l4 (IntKind.i64.wrap (v0 + (1 : Int))) v1 v2 v3 v4 v5 (IntKind.i64.wrap (v6 + (1 : Int))) v7 v8 v9 v10 v11 v12 (v13.set v6.toNat v0)
      else
        (at? v13 v6).bind fun y5 =>
        v13[v6.toNat]?.bind fun y6 =>
        impl_Wave_read_l4 v0 (IntKind.i64.wrap (v1 + (1 : Int))) v2 v3 v4 v5 (IntKind.i64.wrap (v6 + (1 : Int))) v7 v8 v9 v10 v11 v12 (v13.set v6.toNat v1)
    else
      impl_Wave_read_l5 v2 v3 v4 (v11.length : Int) (0 : Int) v7 v8 v9 v10 v11 v12 v13 := (Lw_eq tysOk (getG_con (impl_Wave_read.gok _)) _ _).trans (by kernel_rfl)
theorem impl_Wave_read_l5.eq (v0 : List (Int × (List Int))) (v1 : Int) (v2 : Int) (v3 : Int) (v4 : Int) (v5 : Int) (v6 : List Int) (v7 : List (Int × (List Int))) (v8 : List Int) (v9 : List Int) (v10 : List Int) (v11 : List Int) : impl_Wave_read_l5 v0 v1 v2 v3 v4 v5 v6 v7 v8 v9 v10 v11 =
    bif decide (v4 < v3) then
      (at? v9 v4).bind fun y1 =>
      v9[v4.toNat]?.bind fun y2 =>
      (at? v8 v4).bind fun y3 =>
      v8[v4.toNat]?.bind fun y4 =>
      (at? v10 y2).bind fun y5 =>
      v10[y2.toNat]?.bind fun y6 =>
      (at? v8 v4).bind fun y7 =>
      v8[v4.toNat]?.bind fun y8 =>
      (at? v11 y2).bind fun y9 =>
      v11[y2.toNat]?.bind fun y10 =>
      (at? v9 v4).bind fun y11 =>
      v9[v4.toNat]?.bind fun y12 =>
      impl_Wave_read_l5 v0 v1 v2 v3 (IntKind.i64.wrap (v4 + (1 : Int))) v5 v6 v7 (v8.set v4.toNat (IntKind.i64.wrap (((BitVec.ofInt 64 (IntKind.i64.wrap (y4 * 2 ^ 1))) ||| (BitVec.ofInt 64 y6)).toNat : Int))) (v9.set v4.toNat y10) v10 v11
    else
      impl_Wave_read_l2 v0 v1 (IntKind.i64.wrap (v2 + (1 : Int))) v5 v6 v7 v8 v9 := (Lw_eq tysOk (getG_con (impl_Wave_read.gok _)) _ _).trans (by kernel_rfl)

/-! ### impl_isRate: loop.example/g00688/impl.isRate -/
def impl_isRate.ms : List Mode := [.lend]
def impl_isRate.as : List VSh := [.one (.b (.b (.b (.b (.int .i64)))))]
def impl_isRate.rs : RSh := ⟨[.one (.b (.b (.b (.b (.bool)))))], [none]⟩
noncomputable def impl_isRate.gs (δ : Type) : List (Nat × Callee (GT tab) δ) := [(63, calleeS tab impl_within.ms impl_within.as impl_within.rs impl_within.fn)]
theorem impl_isRate.gok (δ : Type) : AllCon Tryz.prog tab (impl_isRate.gs δ) := .cons impl_within.con (.nil)
noncomputable def impl_isRate.c : Ctx (GT tab) (KT tab) (ResT tab impl_isRate.rs) := { X := XT tab, ty := tyOf tys, inner := fun _ => true, keep := keepOf 0 impl_isRate.ms, cuts := [], live := liveOf [], G := getG (impl_isRate.gs _) }
noncomputable def impl_isRate.b : Code := bodyOf Tryz.f101
noncomputable def impl_isRate (x0 : Int) : Option (Bool) := callW impl_isRate.c (fiOf (GT tab) Tryz.f101 impl_isRate.ms) impl_isRate.b (decRes tab impl_isRate.rs) (encArgs tab impl_isRate.as x0)
theorem impl_isRate.fok : FnOk Tryz.prog 101 Tryz.f101 impl_isRate.ms impl_isRate.b := ⟨Tryz.func101, by kernel_rfl, by kernel_rfl⟩
noncomputable def impl_isRate.fn : Args tab impl_isRate.as → Option (ResT tab impl_isRate.rs) := fun x => impl_isRate x
theorem impl_isRate.con {δ : Type} : Con Tryz.prog (KT tab) 101 (calleeS (β := δ) tab impl_isRate.ms impl_isRate.as impl_isRate.rs impl_isRate.fn) := con_shape (c := impl_isRate.c) mixed tysOk (getG_con (impl_isRate.gok _)) impl_isRate.fok rfl rfl (fun _ => rfl)
theorem impl_isRate.eq (x0 : Int) : impl_isRate x0 =
    (impl_within x0 (1 : Int) (64 : Int)).bind fun y1 =>
    some y1 := by kernel_rfl

/-! ### impl_SymsOk_1: loop.example/g00688/impl.SymsOk$1 -/
def impl_SymsOk_1.ms : List Mode := [.lend]
def impl_SymsOk_1.as : List VSh := [.one (.b (.b (.b (.b (.int .i64)))))]
def impl_SymsOk_1.rs : RSh := ⟨[.one (.b (.b (.b (.b (.bool)))))], [none]⟩
noncomputable def impl_SymsOk_1.gs (δ : Type) : List (Nat × Callee (GT tab) δ) := [(63, calleeS tab impl_within.ms impl_within.as impl_within.rs impl_within.fn)]
theorem impl_SymsOk_1.gok (δ : Type) : AllCon Tryz.prog tab (impl_SymsOk_1.gs δ) := .cons impl_within.con (.nil)
noncomputable def impl_SymsOk_1.c : Ctx (GT tab) (KT tab) (ResT tab impl_SymsOk_1.rs) := { X := XT tab, ty := tyOf tys, inner := fun _ => true, keep := keepOf 0 impl_SymsOk_1.ms, cuts := [], live := liveOf [], G := getG (impl_SymsOk_1.gs _) }
noncomputable def impl_SymsOk_1.b : Code := bodyOf Tryz.f189
noncomputable def impl_SymsOk_1 (x0 : Int) : Option (Bool) := callW impl_SymsOk_1.c (fiOf (GT tab) Tryz.f189 impl_SymsOk_1.ms) impl_SymsOk_1.b (decRes tab impl_SymsOk_1.rs) (encArgs tab impl_SymsOk_1.as x0)
theorem impl_SymsOk_1.fok : FnOk Tryz.prog 189 Tryz.f189 impl_SymsOk_1.ms impl_SymsOk_1.b := ⟨Tryz.func189, by kernel_rfl, by kernel_rfl⟩
noncomputable def impl_SymsOk_1.fn : Args tab impl_SymsOk_1.as → Option (ResT tab impl_SymsOk_1.rs) := fun x => impl_SymsOk_1 x
theorem impl_SymsOk_1.con {δ : Type} : Con Tryz.prog (KT tab) 189 (calleeS (β := δ) tab impl_SymsOk_1.ms impl_SymsOk_1.as impl_SymsOk_1.rs impl_SymsOk_1.fn) := con_shape (c := impl_SymsOk_1.c) mixed tysOk (getG_con (impl_SymsOk_1.gok _)) impl_SymsOk_1.fok rfl rfl (fun _ => rfl)
theorem impl_SymsOk_1.eq (x0 : Int) : impl_SymsOk_1 x0 =
    (impl_within x0 (0 : Int) (256 : Int)).bind fun y1 =>
    some y1 := by kernel_rfl

/-! ### impl_areAll_int_1_SymsOk_1: loop.example/g00688/impl.areAll[int]$1 -/
def impl_areAll_int_1_SymsOk_1.ms : List Mode := [.lend, .lend]
def impl_areAll_int_1_SymsOk_1.as : List VSh := [.one (.b (.b (.b (.b (.int .i64))))), .one (.ptr false 0 [.fn 189 []])]
def impl_areAll_int_1_SymsOk_1.rs : RSh := ⟨[.one (.b (.b (.b (.b (.bool)))))], [none, none]⟩
noncomputable def impl_areAll_int_1_SymsOk_1.gs (δ : Type) : List (Nat × Callee (GT tab) δ) := [(189, calleeS tab impl_SymsOk_1.ms impl_SymsOk_1.as impl_SymsOk_1.rs impl_SymsOk_1.fn)]
theorem impl_areAll_int_1_SymsOk_1.gok (δ : Type) : AllCon Tryz.prog tab (impl_areAll_int_1_SymsOk_1.gs δ) := .cons impl_SymsOk_1.con (.nil)
noncomputable def impl_areAll_int_1_SymsOk_1.c : Ctx (GT tab) (KT tab) (ResT tab impl_areAll_int_1_SymsOk_1.rs) := { X := XT tab, ty := tyOf tys, inner := fun _ => true, keep := keepOf 0 impl_areAll_int_1_SymsOk_1.ms, cuts := [], live := liveOf [], G := getG (impl_areAll_int_1_SymsOk_1.gs _) }
noncomputable def impl_areAll_int_1_SymsOk_1.b : Code := bodyOf Tryz.f213
noncomputable def impl_areAll_int_1_SymsOk_1 (x0 : Int) (x1 : Unit) : Option (Bool) := callW impl_areAll_int_1_SymsOk_1.c (fiOf (GT tab) Tryz.f213 impl_areAll_int_1_SymsOk_1.ms) impl_areAll_int_1_SymsOk_1.b (decRes tab impl_areAll_int_1_SymsOk_1.rs) (encArgs tab impl_areAll_int_1_SymsOk_1.as (x0, x1))
theorem impl_areAll_int_1_SymsOk_1.fok : FnOk Tryz.prog 213 Tryz.f213 impl_areAll_int_1_SymsOk_1.ms impl_areAll_int_1_SymsOk_1.b := ⟨Tryz.func213, by kernel_rfl, by kernel_rfl⟩
noncomputable def impl_areAll_int_1_SymsOk_1.fn : Args tab impl_areAll_int_1_SymsOk_1.as → Option (ResT tab impl_areAll_int_1_SymsOk_1.rs) := fun x => impl_areAll_int_1_SymsOk_1 x.1 x.2
theorem impl_areAll_int_1_SymsOk_1.con {δ : Type} : Con Tryz.prog (KT tab) 213 (calleeS (β := δ) tab impl_areAll_int_1_SymsOk_1.ms impl_areAll_int_1_SymsOk_1.as impl_areAll_int_1_SymsOk_1.rs impl_areAll_int_1_SymsOk_1.fn) := con_shape (c := impl_areAll_int_1_SymsOk_1.c) mixed tysOk (getG_con (impl_areAll_int_1_SymsOk_1.gok _)) impl_areAll_int_1_SymsOk_1.fok rfl rfl (fun _ => rfl)
theorem impl_areAll_int_1_SymsOk_1.eq (x0 : Int) (x1 : Unit) : impl_areAll_int_1_SymsOk_1 x0 x1 =
    (impl_SymsOk_1 x0).bind fun y1 =>
    some (!y1) := by kernel_rfl

/-! ### slices_IndexFunc_int_int_areAll_int_1_SymsOk_1: slices.IndexFunc[[]int,int] -/
def slices_IndexFunc_int_int_areAll_int_1_SymsOk_1.ms : List Mode := [.lend, .lend]
def slices_IndexFunc_int_int_areAll_int_1_SymsOk_1.as : List VSh := [.one (.b (.b (.b (.b (.sl false false 3))))), .one (.fn 213 [.ptr false 0 [.fn 189 []]])]
def slices_IndexFunc_int_int_areAll_int_1_SymsOk_1.rs : RSh := ⟨[.one (.b (.b (.b (.b (.int .i64)))))], [none, none]⟩
noncomputable def slices_IndexFunc_int_int_areAll_int_1_SymsOk_1.gs (δ : Type) : List (Nat × Callee (GT tab) δ) := [(213, calleeS tab impl_areAll_int_1_SymsOk_1.ms impl_areAll_int_1_SymsOk_1.as impl_areAll_int_1_SymsOk_1.rs impl_areAll_int_1_SymsOk_1.fn)]
theorem slices_IndexFunc_int_int_areAll_int_1_SymsOk_1.gok (δ : Type) : AllCon Tryz.prog tab (slices_IndexFunc_int_int_areAll_int_1_SymsOk_1.gs δ) := .cons impl_areAll_int_1_SymsOk_1.con (.nil)
noncomputable def slices_IndexFunc_int_int_areAll_int_1_SymsOk_1.c : Ctx (GT tab) (KT tab) (ResT tab slices_IndexFunc_int_int_areAll_int_1_SymsOk_1.rs) := { X := XT tab, ty := tyOf tys, inner := fun _ => true, keep := keepOf 0 slices_IndexFunc_int_int_areAll_int_1_SymsOk_1.ms, cuts := [], live := liveOf [(2, [0, 1, 7, 8])], G := getG (slices_IndexFunc_int_int_areAll_int_1_SymsOk_1.gs _) }
noncomputable def slices_IndexFunc_int_int_areAll_int_1_SymsOk_1.b : Code := bodyOf Tryz.f221
noncomputable def slices_IndexFunc_int_int_areAll_int_1_SymsOk_1 (x0 : List Int) (x1 : Unit) : Option (Int) := callW slices_IndexFunc_int_int_areAll_int_1_SymsOk_1.c (fiOf (GT tab) Tryz.f221 slices_IndexFunc_int_int_areAll_int_1_SymsOk_1.ms) slices_IndexFunc_int_int_areAll_int_1_SymsOk_1.b (decRes tab slices_IndexFunc_int_int_areAll_int_1_SymsOk_1.rs) (encArgs tab slices_IndexFunc_int_int_areAll_int_1_SymsOk_1.as (x0, x1))
theorem slices_IndexFunc_int_int_areAll_int_1_SymsOk_1.fok : FnOk Tryz.prog 221 Tryz.f221 slices_IndexFunc_int_int_areAll_int_1_SymsOk_1.ms slices_IndexFunc_int_int_areAll_int_1_SymsOk_1.b := ⟨Tryz.func221, by kernel_rfl, by kernel_rfl⟩
noncomputable def slices_IndexFunc_int_int_areAll_int_1_SymsOk_1.fn : Args tab slices_IndexFunc_int_int_areAll_int_1_SymsOk_1.as → Option (ResT tab slices_IndexFunc_int_int_areAll_int_1_SymsOk_1.rs) := fun x => slices_IndexFunc_int_int_areAll_int_1_SymsOk_1 x.1 x.2
theorem slices_IndexFunc_int_int_areAll_int_1_SymsOk_1.con {δ : Type} : Con Tryz.prog (KT tab) 221 (calleeS (β := δ) tab slices_IndexFunc_int_int_areAll_int_1_SymsOk_1.ms slices_IndexFunc_int_int_areAll_int_1_SymsOk_1.as slices_IndexFunc_int_int_areAll_int_1_SymsOk_1.rs slices_IndexFunc_int_int_areAll_int_1_SymsOk_1.fn) := con_shape (c := slices_IndexFunc_int_int_areAll_int_1_SymsOk_1.c) mixed tysOk (getG_con (slices_IndexFunc_int_int_areAll_int_1_SymsOk_1.gok _)) slices_IndexFunc_int_int_areAll_int_1_SymsOk_1.fok rfl rfl (fun _ => rfl)
noncomputable def slices_IndexFunc_int_int_areAll_int_1_SymsOk_1_l0 (v0 : List Int) (v1 : Int) (v2 : Int) : Option (Int) := Lw slices_IndexFunc_int_int_areAll_int_1_SymsOk_1.c (finish slices_IndexFunc_int_int_areAll_int_1_SymsOk_1.c (fiOf (GT tab) Tryz.f221 slices_IndexFunc_int_int_areAll_int_1_SymsOk_1.ms) (decRes tab slices_IndexFunc_int_int_areAll_int_1_SymsOk_1.rs)) ((loops slices_IndexFunc_int_int_areAll_int_1_SymsOk_1.c.cuts 1000 slices_IndexFunc_int_int_areAll_int_1_SymsOk_1.b []).getD 0 []) { slots := [.vs false 3 v0, .fn 213 [.vp [.fn 189 []]], .undef, .undef, .undef, .undef, .undef, .int .i64 v1, .int .i64 v2, .undef, .undef, .undef, .undef, .undef, .undef, .undef, .undef, .undef, .undef], loc := locOf [], nx := 0 }
theorem slices_IndexFunc_int_int_areAll_int_1_SymsOk_1.eq (x0 : List Int) (x1 : Unit) : slices_IndexFunc_int_int_areAll_int_1_SymsOk_1 x0 x1 =
    slices_IndexFunc_int_int_areAll_int_1_SymsOk_1_l0 x0 (x0.length : Int) (0 : Int) := by kernel_rfl
theorem slices_IndexFunc_int_int_areAll_int_1_SymsOk_1_l0.eq (v0 : List Int) (v1 : Int) (v2 : Int) : slices_IndexFunc_int_int_areAll_int_1_SymsOk_1_l0 v0 v1 v2 =
    bif decide (v2 < v1) then
      (at? v0 v2).bind fun y1 =>
      (impl_areAll_int_1_SymsOk_1 y1 ()).bind fun y2 =>
      bif y2 then
        some v2
      else
        slices_IndexFunc_int_int_areAll_int_1_SymsOk_1_l0 v0 v1 (IntKind.i64.wrap (v2 + (1 : Int)))
    else
      some (-1 : Int) := (Lw_eq tysOk (getG_con (slices_IndexFunc_int_int_areAll_int_1_SymsOk_1.gok _)) _ _).trans (by kernel_rfl)

/-! ### slices_ContainsFunc_int_int_areAll_int_1_SymsOk_1: slices.ContainsFunc[[]int,int] -/
def slices_ContainsFunc_int_int_areAll_int_1_SymsOk_1.ms : List Mode := [.lend, .lend]
def slices_ContainsFunc_int_int_areAll_int_1_SymsOk_1.as : List VSh := [.one (.b (.b (.b (.b (.sl false false 3))))), .one (.fn 213 [.ptr false 86 [.fn 189 []]])]
def slices_ContainsFunc_int_int_areAll_int_1_SymsOk_1.rs : RSh := ⟨[.one (.b (.b (.b (.b (.bool)))))], [none, none]⟩
noncomputable def slices_ContainsFunc_int_int_areAll_int_1_SymsOk_1.gs (δ : Type) : List (Nat × Callee (GT tab) δ) := [(221, calleeS tab slices_IndexFunc_int_int_areAll_int_1_SymsOk_1.ms slices_IndexFunc_int_int_areAll_int_1_SymsOk_1.as slices_IndexFunc_int_int_areAll_int_1_SymsOk_1.rs slices_IndexFunc_int_int_areAll_int_1_SymsOk_1.fn)]
theorem slices_ContainsFunc_int_int_areAll_int_1_SymsOk_1.gok (δ : Type) : AllCon Tryz.prog tab (slices_ContainsFunc_int_int_areAll_int_1_SymsOk_1.gs δ) := .cons slices_IndexFunc_int_int_areAll_int_1_SymsOk_1.con (.nil)
noncomputable def slices_ContainsFunc_int_int_areAll_int_1_SymsOk_1.c : Ctx (GT tab) (KT tab) (ResT tab slices_ContainsFunc_int_int_areAll_int_1_SymsOk_1.rs) := { X := XT tab, ty := tyOf tys, inner := fun _ => true, keep := keepOf 0 slices_ContainsFunc_int_int_areAll_int_1_SymsOk_1.ms, cuts := [], live := liveOf [], G := getG (slices_ContainsFunc_int_int_areAll_int_1_SymsOk_1.gs _) }
noncomputable def slices_ContainsFunc_int_int_areAll_int_1_SymsOk_1.b : Code := bodyOf Tryz.f212
noncomputable def slices_ContainsFunc_int_int_areAll_int_1_SymsOk_1 (x0 : List Int) (x1 : Unit) : Option (Bool) := callW slices_ContainsFunc_int_int_areAll_int_1_SymsOk_1.c (fiOf (GT tab) Tryz.f212 slices_ContainsFunc_int_int_areAll_int_1_SymsOk_1.ms) slices_ContainsFunc_int_int_areAll_int_1_SymsOk_1.b (decRes tab slices_ContainsFunc_int_int_areAll_int_1_SymsOk_1.rs) (encArgs tab slices_ContainsFunc_int_int_areAll_int_1_SymsOk_1.as (x0, x1))
theorem slices_ContainsFunc_int_int_areAll_int_1_SymsOk_1.fok : FnOk Tryz.prog 212 Tryz.f212 slices_ContainsFunc_int_int_areAll_int_1_SymsOk_1.ms slices_ContainsFunc_int_int_areAll_int_1_SymsOk_1.b := ⟨Tryz.func212, by kernel_rfl, by kernel_rfl⟩
noncomputable def slices_ContainsFunc_int_int_areAll_int_1_SymsOk_1.fn : Args tab slices_ContainsFunc_int_int_areAll_int_1_SymsOk_1.as → Option (ResT tab slices_ContainsFunc_int_int_areAll_int_1_SymsOk_1.rs) := fun x => slices_ContainsFunc_int_int_areAll_int_1_SymsOk_1 x.1 x.2
theorem slices_ContainsFunc_int_int_areAll_int_1_SymsOk_1.con {δ : Type} : Con Tryz.prog (KT tab) 212 (calleeS (β := δ) tab slices_ContainsFunc_int_int_areAll_int_1_SymsOk_1.ms slices_ContainsFunc_int_int_areAll_int_1_SymsOk_1.as slices_ContainsFunc_int_int_areAll_int_1_SymsOk_1.rs slices_ContainsFunc_int_int_areAll_int_1_SymsOk_1.fn) := con_shape (c := slices_ContainsFunc_int_int_areAll_int_1_SymsOk_1.c) mixed tysOk (getG_con (slices_ContainsFunc_int_int_areAll_int_1_SymsOk_1.gok _)) slices_ContainsFunc_int_int_areAll_int_1_SymsOk_1.fok rfl rfl (fun _ => rfl)
theorem slices_ContainsFunc_int_int_areAll_int_1_SymsOk_1.eq (x0 : List Int) (x1 : Unit) : slices_ContainsFunc_int_int_areAll_int_1_SymsOk_1 x0 x1 =
    (slices_IndexFunc_int_int_areAll_int_1_SymsOk_1 x0 ()).bind fun y1 =>
    some (decide (y1 ≥ (0 : Int))) := by kernel_rfl

/-! ### impl_areAll_int_SymsOk_1: loop.example/g00688/impl.areAll[int] -/
def impl_areAll_int_SymsOk_1.ms : List Mode := [.lend, .lend]
def impl_areAll_int_SymsOk_1.as : List VSh := [.one (.b (.b (.b (.b (.sl false false 3))))), .one (.fn 189 [])]
def impl_areAll_int_SymsOk_1.rs : RSh := ⟨[.one (.b (.b (.b (.b (.bool)))))], [none, none]⟩
noncomputable def impl_areAll_int_SymsOk_1.gs (δ : Type) : List (Nat × Callee (GT tab) δ) := [(212, calleeS tab slices_ContainsFunc_int_int_areAll_int_1_SymsOk_1.ms slices_ContainsFunc_int_int_areAll_int_1_SymsOk_1.as slices_ContainsFunc_int_int_areAll_int_1_SymsOk_1.rs slices_ContainsFunc_int_int_areAll_int_1_SymsOk_1.fn)]
theorem impl_areAll_int_SymsOk_1.gok (δ : Type) : AllCon Tryz.prog tab (impl_areAll_int_SymsOk_1.gs δ) := .cons slices_ContainsFunc_int_int_areAll_int_1_SymsOk_1.con (.nil)
noncomputable def impl_areAll_int_SymsOk_1.c : Ctx (GT tab) (KT tab) (ResT tab impl_areAll_int_SymsOk_1.rs) := { X := XT tab, ty := tyOf tys, inner := fun _ => true, keep := keepOf 0 impl_areAll_int_SymsOk_1.ms, cuts := [], live := liveOf [], G := getG (impl_areAll_int_SymsOk_1.gs _) }
noncomputable def impl_areAll_int_SymsOk_1.b : Code := bodyOf Tryz.f188
noncomputable def impl_areAll_int_SymsOk_1 (x0 : List Int) (x1 : Unit) : Option (Bool) := callW impl_areAll_int_SymsOk_1.c (fiOf (GT tab) Tryz.f188 impl_areAll_int_SymsOk_1.ms) impl_areAll_int_SymsOk_1.b (decRes tab impl_areAll_int_SymsOk_1.rs) (encArgs tab impl_areAll_int_SymsOk_1.as (x0, x1))
theorem impl_areAll_int_SymsOk_1.fok : FnOk Tryz.prog 188 Tryz.f188 impl_areAll_int_SymsOk_1.ms impl_areAll_int_SymsOk_1.b := ⟨Tryz.func188, by kernel_rfl, by kernel_rfl⟩
noncomputable def impl_areAll_int_SymsOk_1.fn : Args tab impl_areAll_int_SymsOk_1.as → Option (ResT tab impl_areAll_int_SymsOk_1.rs) := fun x => impl_areAll_int_SymsOk_1 x.1 x.2
theorem impl_areAll_int_SymsOk_1.con {δ : Type} : Con Tryz.prog (KT tab) 188 (calleeS (β := δ) tab impl_areAll_int_SymsOk_1.ms impl_areAll_int_SymsOk_1.as impl_areAll_int_SymsOk_1.rs impl_areAll_int_SymsOk_1.fn) := con_shape (c := impl_areAll_int_SymsOk_1.c) mixed tysOk (getG_con (impl_areAll_int_SymsOk_1.gok _)) impl_areAll_int_SymsOk_1.fok rfl rfl (fun _ => rfl)
theorem impl_areAll_int_SymsOk_1.eq (x0 : List Int) (x1 : Unit) : impl_areAll_int_SymsOk_1 x0 x1 =
    (slices_ContainsFunc_int_int_areAll_int_1_SymsOk_1 x0 ()).bind fun y1 =>
    some (!y1) := by kernel_rfl

/-! ### impl_SymsOk: loop.example/g00688/impl.SymsOk -/
def impl_SymsOk.ms : List Mode := [.lend]
def impl_SymsOk.as : List VSh := [.one (.b (.b (.b (.b (.sl false false 3)))))]
def impl_SymsOk.rs : RSh := ⟨[.one (.b (.b (.b (.b (.bool)))))], [none]⟩
noncomputable def impl_SymsOk.gs (δ : Type) : List (Nat × Callee (GT tab) δ) := [(188, calleeS tab impl_areAll_int_SymsOk_1.ms impl_areAll_int_SymsOk_1.as impl_areAll_int_SymsOk_1.rs impl_areAll_int_SymsOk_1.fn)]
theorem impl_SymsOk.gok (δ : Type) : AllCon Tryz.prog tab (impl_SymsOk.gs δ) := .cons impl_areAll_int_SymsOk_1.con (.nil)
noncomputable def impl_SymsOk.c : Ctx (GT tab) (KT tab) (ResT tab impl_SymsOk.rs) := { X := XT tab, ty := tyOf tys, inner := fun _ => true, keep := keepOf 0 impl_SymsOk.ms, cuts := [], live := liveOf [], G := getG (impl_SymsOk.gs _) }
noncomputable def impl_SymsOk.b : Code := bodyOf Tryz.f155
noncomputable def impl_SymsOk (x0 : List Int) : Option (Bool) := callW impl_SymsOk.c (fiOf (GT tab) Tryz.f155 impl_SymsOk.ms) impl_SymsOk.b (decRes tab impl_SymsOk.rs) (encArgs tab impl_SymsOk.as x0)
theorem impl_SymsOk.fok : FnOk Tryz.prog 155 Tryz.f155 impl_SymsOk.ms impl_SymsOk.b := ⟨Tryz.func155, by kernel_rfl, by kernel_rfl⟩
noncomputable def impl_SymsOk.fn : Args tab impl_SymsOk.as → Option (ResT tab impl_SymsOk.rs) := fun x => impl_SymsOk x
theorem impl_SymsOk.con {δ : Type} : Con Tryz.prog (KT tab) 155 (calleeS (β := δ) tab impl_SymsOk.ms impl_SymsOk.as impl_SymsOk.rs impl_SymsOk.fn) := con_shape (c := impl_SymsOk.c) mixed tysOk (getG_con (impl_SymsOk.gok _)) impl_SymsOk.fok rfl rfl (fun _ => rfl)
theorem impl_SymsOk.eq (x0 : List Int) : impl_SymsOk x0 =
    bif decide ((x0.length : Int) ≤ (301 : Int)) then
      (impl_areAll_int_SymsOk_1 x0 ()).bind fun y1 =>
      some y1
    else
      some false := by kernel_rfl

/-! ### impl_counts: loop.example/g00688/impl.counts -/
def impl_counts.ms : List Mode := [.lend]
def impl_counts.as : List VSh := [.one (.b (.b (.b (.b (.sl false false 3)))))]
def impl_counts.rs : RSh := ⟨[.one (.b (.b (.b (.b (.sl true true 3)))))], [none]⟩
noncomputable def impl_counts.gs (δ : Type) : List (Nat × Callee (GT tab) δ) := []
theorem impl_counts.gok (δ : Type) : AllCon Tryz.prog tab (impl_counts.gs δ) := .nil
noncomputable def impl_counts.c : Ctx (GT tab) (KT tab) (ResT tab impl_counts.rs) := { X := XT tab, ty := tyOf tys, inner := fun _ => true, keep := keepOf 0 impl_counts.ms, cuts := [], live := liveOf [(3, [3, 8, 9, 10]), (8, [3, 6])], G := getG (impl_counts.gs _) }
noncomputable def impl_counts.b : Code := bodyOf Tryz.f134
noncomputable def impl_counts (x0 : List Int) : Option (List Int) := callW impl_counts.c (fiOf (GT tab) Tryz.f134 impl_counts.ms) impl_counts.b (decRes tab impl_counts.rs) (encArgs tab impl_counts.as x0)
theorem impl_counts.fok : FnOk Tryz.prog 134 Tryz.f134 impl_counts.ms impl_counts.b := ⟨Tryz.func134, by kernel_rfl, by kernel_rfl⟩
noncomputable def impl_counts.fn : Args tab impl_counts.as → Option (ResT tab impl_counts.rs) := fun x => impl_counts x
theorem impl_counts.con {δ : Type} : Con Tryz.prog (KT tab) 134 (calleeS (β := δ) tab impl_counts.ms impl_counts.as impl_counts.rs impl_counts.fn) := con_shape (c := impl_counts.c) mixed tysOk (getG_con (impl_counts.gok _)) impl_counts.fok rfl rfl (fun _ => rfl)
noncomputable def impl_counts_l0 (v0 : List Int) (v1 : Int) (v2 : Int) (v3 : List Int) : Option (List Int) := Lw impl_counts.c (finish impl_counts.c (fiOf (GT tab) Tryz.f134 impl_counts.ms) (decRes tab impl_counts.rs)) ((loops impl_counts.c.cuts 1000 impl_counts.b []).getD 0 []) { slots := [.undef, .undef, .undef, .sl 0 0, .undef, .undef, .undef, .undef, .vs false 3 v0, .int .i64 v1, .int .i64 v2, .undef, .undef, .undef, .undef, .undef, .undef, .undef, .undef, .undef, .undef, .undef, .undef, .undef, .undef, .undef, .undef, .undef, .undef, .undef, .undef, .undef, .undef, .undef, .undef, .undef, .undef, .undef], loc := locOf [.row 0 true 3 v3], nx := 1 }
noncomputable def impl_counts_l1 (v0 : Int) (v1 : List Int) : Option (List Int) := Lw impl_counts.c (finish impl_counts.c (fiOf (GT tab) Tryz.f134 impl_counts.ms) (decRes tab impl_counts.rs)) ((loops impl_counts.c.cuts 1000 impl_counts.b []).getD 1 []) { slots := [.undef, .undef, .undef, .sl 0 0, .undef, .undef, .int .i64 v0, .undef, .undef, .undef, .undef, .undef, .undef, .undef, .undef, .undef, .undef, .undef, .undef, .undef, .undef, .undef, .undef, .undef, .undef, .undef, .undef, .undef, .undef, .undef, .undef, .undef, .undef, .undef, .undef, .undef, .undef, .undef], loc := locOf [.row 0 true 3 v1], nx := 1 }
theorem impl_counts.eq (x0 : List Int) : impl_counts x0 =
    impl_counts_l0 x0 (x0.length : Int) (0 : Int) (List.replicate 258 (0 : Int)) := by kernel_rfl
theorem impl_counts_l0.eq (v0 : List Int) (v1 : Int) (v2 : Int) (v3 : List Int) : impl_counts_l0 v0 v1 v2 v3 =
    bif decide (v2 < v1) then
      (at? v0 v2).bind fun y1 =>
      (at? v3 (IntKind.i64.wrap (y1 + (1 : Int)))).bind fun y2 =>
      v3[(IntKind.i64.wrap (y1 + (1 : Int))).toNat]?.bind fun y3 =>
      (at? v3 (IntKind.i64.wrap (y1 + (1 : Int)))).bind fun y4 =>
      v3[(IntKind.i64.wrap (y1 + (1 : Int))).toNat]?.bind fun y5 =>
      impl_counts_l0 v0 v1 (IntKind.i64.wrap (v2 + (1 : Int))) (v3.set ((IntKind.i64.wrap (y1 + (1 : Int))).toNat) (IntKind.i64.wrap (y3 + (1 : Int))))
    else
      impl_counts_l1 (1 : Int) v3 := (Lw_eq tysOk (getG_con (impl_counts.gok _)) _ _).trans (by kernel_rfl)
theorem impl_counts_l1.eq (v0 : Int) (v1 : List Int) : impl_counts_l1 v0 v1 =
    bif decide (v0 < (258 : Int)) then
      (at? v1 v0).bind fun y1 =>
      v1[v0.toNat]?.bind fun y2 =>
      (at? v1 (IntKind.i64.wrap (v0 - (1 : Int)))).bind fun y3 =>
      v1[(IntKind.i64.wrap (v0 - (1 : Int))).toNat]?.bind fun y4 =>
      (at? v1 v0).bind fun y5 =>
      v1[v0.toNat]?.bind fun y6 =>
      impl_counts_l1 (IntKind.i64.wrap (v0 + (1 : Int))) (v1.set v0.toNat (IntKind.i64.wrap (y2 + y4)))
    else
      some v1 := (Lw_eq tysOk (getG_con (impl_counts.gok _)) _ _).trans (by kernel_rfl)

/-! ### impl_lfOf: loop.example/g00688/impl.lfOf -/
def impl_lfOf.ms : List Mode := [.lend]
def impl_lfOf.as : List VSh := [.one (.b (.b (.b (.b (.sl false false 3)))))]
def impl_lfOf.rs : RSh := ⟨[.one (.b (.b (.b (.b (.sl true true 3)))))], [none]⟩
noncomputable def impl_lfOf.gs (δ : Type) : List (Nat × Callee (GT tab) δ) := [(134, calleeS tab impl_counts.ms impl_counts.as impl_counts.rs impl_counts.fn)]
theorem impl_lfOf.gok (δ : Type) : AllCon Tryz.prog tab (impl_lfOf.gs δ) := .cons impl_counts.con (.nil)
noncomputable def impl_lfOf.c : Ctx (GT tab) (KT tab) (ResT tab impl_lfOf.rs) := { X := XT tab, ty := tyOf tys, inner := fun _ => true, keep := keepOf 0 impl_lfOf.ms, cuts := [], live := liveOf [(4, [3, 4, 9, 10, 11])], G := getG (impl_lfOf.gs _) }
noncomputable def impl_lfOf.b : Code := bodyOf Tryz.f68
noncomputable def impl_lfOf (x0 : List Int) : Option (List Int) := callW impl_lfOf.c (fiOf (GT tab) Tryz.f68 impl_lfOf.ms) impl_lfOf.b (decRes tab impl_lfOf.rs) (encArgs tab impl_lfOf.as x0)
theorem impl_lfOf.fok : FnOk Tryz.prog 68 Tryz.f68 impl_lfOf.ms impl_lfOf.b := ⟨Tryz.func68, by kernel_rfl, by kernel_rfl⟩
noncomputable def impl_lfOf.fn : Args tab impl_lfOf.as → Option (ResT tab impl_lfOf.rs) := fun x => impl_lfOf x
theorem impl_lfOf.con {δ : Type} : Con Tryz.prog (KT tab) 68 (calleeS (β := δ) tab impl_lfOf.ms impl_lfOf.as impl_lfOf.rs impl_lfOf.fn) := con_shape (c := impl_lfOf.c) mixed tysOk (getG_con (impl_lfOf.gok _)) impl_lfOf.fok rfl rfl (fun _ => rfl)
noncomputable def impl_lfOf_l0 (v0 : List Int) (v1 : Int) (v2 : Int) (v3 : List Int) (v4 : List Int) : Option (List Int) := Lw impl_lfOf.c (finish impl_lfOf.c (fiOf (GT tab) Tryz.f68 impl_lfOf.ms) (decRes tab impl_lfOf.rs)) ((loops impl_lfOf.c.cuts 1000 impl_lfOf.b []).getD 0 []) { slots := [.undef, .undef, .undef, .sl 0 0, .sl 1 0, .undef, .undef, .undef, .undef, .vs false 3 v0, .int .i64 v1, .int .i64 v2, .undef, .undef, .undef, .undef, .undef, .undef, .undef, .undef, .undef, .undef, .undef, .undef, .undef, .undef, .undef, .undef, .undef, .undef], loc := locOf [.row 0 true 3 v3, .row 0 true 3 v4], nx := 2 }
theorem impl_lfOf.eq (x0 : List Int) : impl_lfOf x0 =
    (impl_counts x0).bind fun y1 =>
    impl_lfOf_l0 x0 (x0.length : Int) (0 : Int) y1 ([] : List Int) := by kernel_rfl
theorem impl_lfOf_l0.eq (v0 : List Int) (v1 : Int) (v2 : Int) (v3 : List Int) (v4 : List Int) : impl_lfOf_l0 v0 v1 v2 v3 v4 =
    bif decide (v2 < v1) then
      (at? v0 v2).bind fun y1 =>
      (at? v3 y1).bind fun y2 =>
      v3[y1.toNat]?.bind fun y3 =>
      bif decide ((v4.length + ([y3] : List Int).length) * 8 ≤ 140737488355328) then
        (at? v3 y1).bind fun y4 =>
        v3[y1.toNat]?.bind fun y5 =>
        (at? v3 y1).bind fun y6 =>
        v3[y1.toNat]?.bind fun y7 =>
        impl_lfOf_l0 v0 v1 (IntKind.i64.wrap (v2 + (1 : Int))) (v3.set y1.toNat (IntKind.i64.wrap (y5 + (1 : Int)))) (v4 ++ ([y3] : List Int))
      else
        none
    else
      some v4 := (Lw_eq tysOk (getG_con (impl_lfOf.gok _)) _ _).trans (by kernel_rfl)

/-! ### bytealg_Compare: internal/bytealg.Compare (by hand) -/
def bytealg_Compare.ms : List Mode := [.lend, .lend]
def bytealg_Compare.as : List VSh := [.one (.b (.b (.b (.b (.sl false false 5))))), .one (.b (.b (.b (.b (.sl false false 5)))))]
def bytealg_Compare.rs : RSh := ⟨[.one (.b (.b (.b (.b (.int .i64)))))], [none, none]⟩
noncomputable def bytealg_Compare (x0 : List Int) (x1 : List Int) : Option (Int) := some (cmpB (x0.map fun x => x) (x1.map fun x => x))
noncomputable def bytealg_Compare.fn : Args tab bytealg_Compare.as → Option (ResT tab bytealg_Compare.rs) := fun x => bytealg_Compare x.1 x.2
theorem bytealg_Compare.con {δ : Type} : Con Tryz.prog (KT tab) 181 (calleeS (β := δ) tab bytealg_Compare.ms bytealg_Compare.as bytealg_Compare.rs bytealg_Compare.fn) := con_compare Tryz.func181 (by kernel_rfl) (by kernel_rfl) (by kernel_rfl) (by kernel_rfl) (l := tab) (e := 5) (g := fun x => x) rfl

/-! ### bytes_Compare: bytes.Compare -/
def bytes_Compare.ms : List Mode := [.lend, .lend]
def bytes_Compare.as : List VSh := [.one (.b (.b (.b (.b (.sl false false 5))))), .one (.b (.b (.b (.b (.sl false false 5)))))]
def bytes_Compare.rs : RSh := ⟨[.one (.b (.b (.b (.b (.int .i64)))))], [none, none]⟩
noncomputable def bytes_Compare.gs (δ : Type) : List (Nat × Callee (GT tab) δ) := [(181, calleeS tab bytealg_Compare.ms bytealg_Compare.as bytealg_Compare.rs bytealg_Compare.fn)]
theorem bytes_Compare.gok (δ : Type) : AllCon Tryz.prog tab (bytes_Compare.gs δ) := .cons bytealg_Compare.con (.nil)
noncomputable def bytes_Compare.c : Ctx (GT tab) (KT tab) (ResT tab bytes_Compare.rs) := { X := XT tab, ty := tyOf tys, inner := fun _ => true, keep := keepOf 0 bytes_Compare.ms, cuts := [], live := liveOf [], G := getG (bytes_Compare.gs _) }
noncomputable def bytes_Compare.b : Code := bodyOf Tryz.f123
noncomputable def bytes_Compare (x0 : List Int) (x1 : List Int) : Option (Int) := callW bytes_Compare.c (fiOf (GT tab) Tryz.f123 bytes_Compare.ms) bytes_Compare.b (decRes tab bytes_Compare.rs) (encArgs tab bytes_Compare.as (x0, x1))
theorem bytes_Compare.fok : FnOk Tryz.prog 123 Tryz.f123 bytes_Compare.ms bytes_Compare.b := ⟨Tryz.func123, by kernel_rfl, by kernel_rfl⟩
noncomputable def bytes_Compare.fn : Args tab bytes_Compare.as → Option (ResT tab bytes_Compare.rs) := fun x => bytes_Compare x.1 x.2
theorem bytes_Compare.con {δ : Type} : Con Tryz.prog (KT tab) 123 (calleeS (β := δ) tab bytes_Compare.ms bytes_Compare.as bytes_Compare.rs bytes_Compare.fn) := con_shape (c := bytes_Compare.c) mixed tysOk (getG_con (bytes_Compare.gok _)) bytes_Compare.fok rfl rfl (fun _ => rfl)
theorem bytes_Compare.eq (x0 : List Int) (x1 : List Int) : bytes_Compare x0 x1 =
    (bytealg_Compare x0 x1).bind fun y1 =>
    some y1 := by kernel_rfl

/-! ### impl_suffixRows_1: loop.example/g00688/impl.suffixRows$1 -/
def impl_suffixRows_1.ms : List Mode := [.lend, .lend, .lend]
def impl_suffixRows_1.as : List VSh := [.one (.b (.b (.b (.b (.int .i64))))), .one (.b (.b (.b (.b (.int .i64))))), .one (.ptr false 22 [.b (.b (.b (.sl false false 5)))])]
def impl_suffixRows_1.rs : RSh := ⟨[.one (.b (.b (.b (.b (.int .i64)))))], [none, none, none]⟩
noncomputable def impl_suffixRows_1.gs (δ : Type) : List (Nat × Callee (GT tab) δ) := [(123, calleeS tab bytes_Compare.ms bytes_Compare.as bytes_Compare.rs bytes_Compare.fn)]
theorem impl_suffixRows_1.gok (δ : Type) : AllCon Tryz.prog tab (impl_suffixRows_1.gs δ) := .cons bytes_Compare.con (.nil)
noncomputable def impl_suffixRows_1.c : Ctx (GT tab) (KT tab) (ResT tab impl_suffixRows_1.rs) := { X := XT tab, ty := tyOf tys, inner := fun _ => true, keep := keepOf 0 impl_suffixRows_1.ms, cuts := [], live := liveOf [], G := getG (impl_suffixRows_1.gs _) }
noncomputable def impl_suffixRows_1.b : Code := bodyOf Tryz.f133
noncomputable def impl_suffixRows_1 (x0 : Int) (x1 : Int) (x2 : List Int) : Option (Int) := callW impl_suffixRows_1.c (fiOf (GT tab) Tryz.f133 impl_suffixRows_1.ms) impl_suffixRows_1.b (decRes tab impl_suffixRows_1.rs) (encArgs tab impl_suffixRows_1.as (x0, x1, x2))
theorem impl_suffixRows_1.fok : FnOk Tryz.prog 133 Tryz.f133 impl_suffixRows_1.ms impl_suffixRows_1.b := ⟨Tryz.func133, by kernel_rfl, by kernel_rfl⟩
noncomputable def impl_suffixRows_1.fn : Args tab impl_suffixRows_1.as → Option (ResT tab impl_suffixRows_1.rs) := fun x => impl_suffixRows_1 x.1 x.2.1 x.2.2
theorem impl_suffixRows_1.con {δ : Type} : Con Tryz.prog (KT tab) 133 (calleeS (β := δ) tab impl_suffixRows_1.ms impl_suffixRows_1.as impl_suffixRows_1.rs impl_suffixRows_1.fn) := con_shape (c := impl_suffixRows_1.c) mixed tysOk (getG_con (impl_suffixRows_1.gok _)) impl_suffixRows_1.fok rfl rfl (fun _ => rfl)
theorem impl_suffixRows_1.eq (x0 : Int) (x1 : Int) (x2 : List Int) : impl_suffixRows_1 x0 x1 x2 =
    bif decide (0 ≤ x0 ∧ x0 ≤ ((x2.length : Nat) : Int)) then
      bif decide (0 ≤ x1 ∧ x1 ≤ ((x2.length : Nat) : Int)) then
        (bytes_Compare ((x2.take x2.length).drop x0.toNat) ((x2.take x2.length).drop x1.toNat)).bind fun y1 =>
        some y1
      else
        none
    else
      none := by kernel_rfl

/-! ### slices_SortFunc_int_int_suffixRows_1: slices.SortFunc[[]int,int] (by hand) -/
def slices_SortFunc_int_int_suffixRows_1.ms : List Mode := [.keep, .lend]
def slices_SortFunc_int_int_suffixRows_1.as : List VSh := [.one (.b (.b (.b (.b (.sl true true 3))))), .one (.fn 133 [.ptr false 22 [.b (.b (.sl false false 5))]])]
def slices_SortFunc_int_int_suffixRows_1.rs : RSh := ⟨[], [some (.one (.b (.b (.b (.b (.sl true true 3)))))), none]⟩
noncomputable def slices_SortFunc_int_int_suffixRows_1 (x0 : List Int) (x1 : List Int) : Option (List Int) := sortC (fun a b => impl_suffixRows_1 a b x1) x0
noncomputable def slices_SortFunc_int_int_suffixRows_1.fn : Args tab slices_SortFunc_int_int_suffixRows_1.as → Option (ResT tab slices_SortFunc_int_int_suffixRows_1.rs) := fun x => slices_SortFunc_int_int_suffixRows_1 x.1 x.2
theorem slices_SortFunc_int_int_suffixRows_1.con {δ : Type} : Con Tryz.prog (KT tab) 132 (calleeS (β := δ) tab slices_SortFunc_int_int_suffixRows_1.ms slices_SortFunc_int_int_suffixRows_1.as slices_SortFunc_int_int_suffixRows_1.rs slices_SortFunc_int_int_suffixRows_1.fn) := con_sort (l := tab) Tryz.laysSort132 rfl (e := 3) (g := fun x => x) rfl (gf := 133) (fun a w => FnOk.enters impl_suffixRows_1.fok a w) (cv := .one (.fn 133 [.ptr false 22 [.b (.b (.sl false false 5))]])) (capsT := fun y => [.ptr false 22 [.sl false false 5 y]]) (fun _ => by kernel_rfl) (fun y => List.all_eq_true.1 (by kernel_rfl)) (cal := calleeS tab impl_suffixRows_1.ms impl_suffixRows_1.as impl_suffixRows_1.rs impl_suffixRows_1.fn) impl_suffixRows_1.con (ks := [none, none, none]) (F := fun a b y => impl_suffixRows_1 a b y) (fun a b y => sem_map (by kernel_rfl))

/-! ### impl_suffixRows: loop.example/g00688/impl.suffixRows -/
def impl_suffixRows.ms : List Mode := [.lend]
def impl_suffixRows.as : List VSh := [.one (.b (.b (.b (.b (.sl false false 5)))))]
def impl_suffixRows.rs : RSh := ⟨[.one (.b (.b (.b (.b (.sl true true 3)))))], [none]⟩
noncomputable def impl_suffixRows.gs (δ : Type) : List (Nat × Callee (GT tab) δ) := [(132, calleeS tab slices_SortFunc_int_int_suffixRows_1.ms slices_SortFunc_int_int_suffixRows_1.as slices_SortFunc_int_int_suffixRows_1.rs slices_SortFunc_int_int_suffixRows_1.fn)]
theorem impl_suffixRows.gok (δ : Type) : AllCon Tryz.prog tab (impl_suffixRows.gs δ) := .cons slices_SortFunc_int_int_suffixRows_1.con (.nil)
noncomputable def impl_suffixRows.c : Ctx (GT tab) (KT tab) (ResT tab impl_suffixRows.rs) := { X := XT tab, ty := tyOf tys, inner := fun _ => true, keep := keepOf 0 impl_suffixRows.ms, cuts := [], live := liveOf [(3, [1, 3, 7, 8])], G := getG (impl_suffixRows.gs _) }
noncomputable def impl_suffixRows.b : Code := bodyOf Tryz.f64
noncomputable def impl_suffixRows (x0 : List Int) : Option (List Int) := callW impl_suffixRows.c (fiOf (GT tab) Tryz.f64 impl_suffixRows.ms) impl_suffixRows.b (decRes tab impl_suffixRows.rs) (encArgs tab impl_suffixRows.as x0)
theorem impl_suffixRows.fok : FnOk Tryz.prog 64 Tryz.f64 impl_suffixRows.ms impl_suffixRows.b := ⟨Tryz.func64, by kernel_rfl, by kernel_rfl⟩
noncomputable def impl_suffixRows.fn : Args tab impl_suffixRows.as → Option (ResT tab impl_suffixRows.rs) := fun x => impl_suffixRows x
theorem impl_suffixRows.con {δ : Type} : Con Tryz.prog (KT tab) 64 (calleeS (β := δ) tab impl_suffixRows.ms impl_suffixRows.as impl_suffixRows.rs impl_suffixRows.fn) := con_shape (c := impl_suffixRows.c) mixed tysOk (getG_con (impl_suffixRows.gok _)) impl_suffixRows.fok rfl rfl (fun _ => rfl)
noncomputable def impl_suffixRows_l0 (v0 : Int) (v1 : Int) (v2 : List Int) (v3 : List Int) : Option (List Int) := Lw impl_suffixRows.c (finish impl_suffixRows.c (fiOf (GT tab) Tryz.f64 impl_suffixRows.ms) (decRes tab impl_suffixRows.rs)) ((loops impl_suffixRows.c.cuts 1000 impl_suffixRows.b []).getD 0 []) { slots := [.undef, .ptr 0 0, .undef, .sl 1 0, .undef, .undef, .undef, .int .i64 v0, .int .i64 v1, .undef, .undef, .undef, .undef, .undef, .undef, .undef, .undef, .undef, .undef, .undef], loc := locOf [.box 22 [.vs false 5 v2], .row 0 true 3 v3], nx := 2 }
theorem impl_suffixRows.eq (x0 : List Int) : impl_suffixRows x0 =
    impl_suffixRows_l0 (IntKind.i64.wrap ((x0.length : Int) + (1 : Int))) (0 : Int) x0 ([] : List Int) := by kernel_rfl
theorem impl_suffixRows_l0.eq (v0 : Int) (v1 : Int) (v2 : List Int) (v3 : List Int) : impl_suffixRows_l0 v0 v1 v2 v3 =
    bif decide (v1 < v0) then
      bif decide ((v3.length + ([v1] : List Int).length) * 8 ≤ 140737488355328) then
        impl_suffixRows_l0 v0 (IntKind.i64.wrap (v1 + (1 : Int))) v2 (v3 ++ ([v1] : List Int))
      else
        none
    else
      (slices_SortFunc_int_int_suffixRows_1 v3 v2).bind fun y1 =>
      some y1 := (Lw_eq tysOk (getG_con (impl_suffixRows.gok _)) _ _).trans (by kernel_rfl)

/-! ### impl_bwtOf: loop.example/g00688/impl.bwtOf -/
def impl_bwtOf.ms : List Mode := [.lend]
def impl_bwtOf.as : List VSh := [.one (.b (.b (.b (.b (.sl false false 5)))))]
def impl_bwtOf.rs : RSh := ⟨[.one (.b (.b (.b (.b (.sl true true 3)))))], [none]⟩
noncomputable def impl_bwtOf.gs (δ : Type) : List (Nat × Callee (GT tab) δ) := [(64, calleeS tab impl_suffixRows.ms impl_suffixRows.as impl_suffixRows.rs impl_suffixRows.fn)]
theorem impl_bwtOf.gok (δ : Type) : AllCon Tryz.prog tab (impl_bwtOf.gs δ) := .cons impl_suffixRows.con (.nil)
noncomputable def impl_bwtOf.c : Ctx (GT tab) (KT tab) (ResT tab impl_bwtOf.rs) := { X := XT tab, ty := tyOf tys, inner := fun _ => true, keep := keepOf 0 impl_bwtOf.ms, cuts := [], live := liveOf [(3, [0, 3, 7, 8, 9])], G := getG (impl_bwtOf.gs _) }
noncomputable def impl_bwtOf.b : Code := bodyOf Tryz.f69
noncomputable def impl_bwtOf (x0 : List Int) : Option (List Int) := callW impl_bwtOf.c (fiOf (GT tab) Tryz.f69 impl_bwtOf.ms) impl_bwtOf.b (decRes tab impl_bwtOf.rs) (encArgs tab impl_bwtOf.as x0)
theorem impl_bwtOf.fok : FnOk Tryz.prog 69 Tryz.f69 impl_bwtOf.ms impl_bwtOf.b := ⟨Tryz.func69, by kernel_rfl, by kernel_rfl⟩
noncomputable def impl_bwtOf.fn : Args tab impl_bwtOf.as → Option (ResT tab impl_bwtOf.rs) := fun x => impl_bwtOf x
theorem impl_bwtOf.con {δ : Type} : Con Tryz.prog (KT tab) 69 (calleeS (β := δ) tab impl_bwtOf.ms impl_bwtOf.as impl_bwtOf.rs impl_bwtOf.fn) := con_shape (c := impl_bwtOf.c) mixed tysOk (getG_con (impl_bwtOf.gok _)) impl_bwtOf.fok rfl rfl (fun _ => rfl)
noncomputable def impl_bwtOf_l0 (v0 : List Int) (v1 : Int) (v2 : Int) (v3 : List Int) (v4 : List Int) : Option (List Int) := Lw impl_bwtOf.c (finish impl_bwtOf.c (fiOf (GT tab) Tryz.f69 impl_bwtOf.ms) (decRes tab impl_bwtOf.rs)) ((loops impl_bwtOf.c.cuts 1000 impl_bwtOf.b []).getD 0 []) { slots := [.vs false 5 v0, .undef, .undef, .sl 0 0, .undef, .undef, .undef, .sl 1 0, .int .i64 v1, .int .i64 v2, .undef, .undef, .undef, .undef, .undef, .undef, .undef, .undef, .undef, .undef, .undef, .undef, .undef, .undef, .undef, .undef, .undef, .undef, .undef, .undef], loc := locOf [.row 0 true 3 v3, .row 0 true 3 v4], nx := 2 }
theorem impl_bwtOf.eq (x0 : List Int) : impl_bwtOf x0 =
    (impl_suffixRows x0).bind fun y1 =>
    impl_bwtOf_l0 x0 (y1.length : Int) (0 : Int) ([] : List Int) y1 := by kernel_rfl
theorem impl_bwtOf_l0.eq (v0 : List Int) (v1 : Int) (v2 : Int) (v3 : List Int) (v4 : List Int) : impl_bwtOf_l0 v0 v1 v2 v3 v4 =
    bif decide (v2 < v1) then
      (at? v4 v2).bind fun y1 =>
      v4[v2.toNat]?.bind fun y2 =>
      bif y2 == (0 : Int) then
        bif decide ((v3.length + ([(0 : Int)] : List Int).length) * 8 ≤ 140737488355328) then
          impl_bwtOf_l0 v0 v1 (IntKind.i64.wrap (v2 + (1 : Int))) (v3 ++ ([(0 : Int)] : List Int)) v4
        else
          none
      else
        (at? v0 (IntKind.i64.wrap (y2 - (1 : Int)))).bind fun y3 =>
        bif decide ((v3.length + ([IntKind.i64.wrap ((IntKind.i64.wrap y3) + (1 : Int))] : List Int).length) * 8 ≤ 140737488355328) then
          impl_bwtOf_l0 v0 v1 (IntKind.i64.wrap (v2 + (1 : Int))) (v3 ++ ([IntKind.i64.wrap ((IntKind.i64.wrap y3) + (1 : Int))] : List Int)) v4
        else
          none
    else
      some v3 := (Lw_eq tysOk (getG_con (impl_bwtOf.gok _)) _ _).trans (by kernel_rfl)

/-! ### slices_Equal_int_int: slices.Equal[[]int,int] -/
def slices_Equal_int_int.ms : List Mode := [.lend, .lend]
def slices_Equal_int_int.as : List VSh := [.one (.b (.b (.b (.b (.sl false false 3))))), .one (.b (.b (.b (.b (.sl false false 3)))))]
def slices_Equal_int_int.rs : RSh := ⟨[.one (.b (.b (.b (.b (.bool)))))], [none, none]⟩
noncomputable def slices_Equal_int_int.gs (δ : Type) : List (Nat × Callee (GT tab) δ) := []
theorem slices_Equal_int_int.gok (δ : Type) : AllCon Tryz.prog tab (slices_Equal_int_int.gs δ) := .nil
noncomputable def slices_Equal_int_int.c : Ctx (GT tab) (KT tab) (ResT tab slices_Equal_int_int.rs) := { X := XT tab, ty := tyOf tys, inner := fun _ => true, keep := keepOf 0 slices_Equal_int_int.ms, cuts := [], live := liveOf [(4, [0, 1, 12, 13])], G := getG (slices_Equal_int_int.gs _) }
noncomputable def slices_Equal_int_int.b : Code := bodyOf Tryz.f156
noncomputable def slices_Equal_int_int (x0 : List Int) (x1 : List Int) : Option (Bool) := callW slices_Equal_int_int.c (fiOf (GT tab) Tryz.f156 slices_Equal_int_int.ms) slices_Equal_int_int.b (decRes tab slices_Equal_int_int.rs) (encArgs tab slices_Equal_int_int.as (x0, x1))
theorem slices_Equal_int_int.fok : FnOk Tryz.prog 156 Tryz.f156 slices_Equal_int_int.ms slices_Equal_int_int.b := ⟨Tryz.func156, by kernel_rfl, by kernel_rfl⟩
noncomputable def slices_Equal_int_int.fn : Args tab slices_Equal_int_int.as → Option (ResT tab slices_Equal_int_int.rs) := fun x => slices_Equal_int_int x.1 x.2
theorem slices_Equal_int_int.con {δ : Type} : Con Tryz.prog (KT tab) 156 (calleeS (β := δ) tab slices_Equal_int_int.ms slices_Equal_int_int.as slices_Equal_int_int.rs slices_Equal_int_int.fn) := con_shape (c := slices_Equal_int_int.c) mixed tysOk (getG_con (slices_Equal_int_int.gok _)) slices_Equal_int_int.fok rfl rfl (fun _ => rfl)
noncomputable def slices_Equal_int_int_l0 (v0 : List Int) (v1 : List Int) (v2 : Int) (v3 : Int) : Option (Bool) := Lw slices_Equal_int_int.c (finish slices_Equal_int_int.c (fiOf (GT tab) Tryz.f156 slices_Equal_int_int.ms) (decRes tab slices_Equal_int_int.rs)) ((loops slices_Equal_int_int.c.cuts 1000 slices_Equal_int_int.b []).getD 0 []) { slots := [.vs false 3 v0, .vs false 3 v1, .undef, .undef, .undef, .undef, .undef, .undef, .undef, .undef, .undef, .undef, .int .i64 v2, .int .i64 v3, .undef, .undef, .undef, .undef, .undef, .undef, .undef, .undef, .undef, .undef, .undef, .undef], loc := locOf [], nx := 0 }
theorem slices_Equal_int_int.eq (x0 : List Int) (x1 : List Int) : slices_Equal_int_int x0 x1 =
    bif (x0.length : Int) != (x1.length : Int) then
      some false
    else
      slices_Equal_int_int_l0 x0 x1 (x0.length : Int) (0 : Int) := by kernel_rfl
theorem slices_Equal_int_int_l0.eq (v0 : List Int) (v1 : List Int) (v2 : Int) (v3 : Int) : slices_Equal_int_int_l0 v0 v1 v2 v3 =
    bif decide (v3 < v2) then
      (at? v0 v3).bind fun y1 =>
      (at? v1 v3).bind fun y2 =>
      bif y1 != y2 then
        some false
      else
        slices_Equal_int_int_l0 v0 v1 v2 (IntKind.i64.wrap (v3 + (1 : Int)))
    else
      some true := (Lw_eq tysOk (getG_con (slices_Equal_int_int.gok _)) _ _).trans (by kernel_rfl)

/-! ### impl_BwtText: loop.example/g00688/impl.BwtText -/
def impl_BwtText.ms : List Mode := [.lend]
def impl_BwtText.as : List VSh := [.one (.b (.b (.b (.b (.sl false false 3)))))]
def impl_BwtText.rs : RSh := ⟨[.one (.b (.b (.b (.b (.sl true true 5))))), .one (.b (.b (.b (.b (.bool)))))], [none]⟩
noncomputable def impl_BwtText.gs (δ : Type) : List (Nat × Callee (GT tab) δ) := [(68, calleeS tab impl_lfOf.ms impl_lfOf.as impl_lfOf.rs impl_lfOf.fn), (69, calleeS tab impl_bwtOf.ms impl_bwtOf.as impl_bwtOf.rs impl_bwtOf.fn), (73, calleeS tab impl_count.ms impl_count.as impl_count.rs impl_count.fn), (155, calleeS tab impl_SymsOk.ms impl_SymsOk.as impl_SymsOk.rs impl_SymsOk.fn), (156, calleeS tab slices_Equal_int_int.ms slices_Equal_int_int.as slices_Equal_int_int.rs slices_Equal_int_int.fn)]
theorem impl_BwtText.gok (δ : Type) : AllCon Tryz.prog tab (impl_BwtText.gs δ) := .cons impl_lfOf.con (.cons impl_bwtOf.con (.cons impl_count.con (.cons impl_SymsOk.con (.cons slices_Equal_int_int.con (.nil)))))
noncomputable def impl_BwtText.c : Ctx (GT tab) (KT tab) (ResT tab impl_BwtText.rs) := { X := XT tab, ty := tyOf tys, inner := fun _ => true, keep := keepOf 0 impl_BwtText.ms, cuts := [3], live := liveOf [(3, [0]), (7, [0, 4, 5, 6, 7])], G := getG (impl_BwtText.gs _) }
noncomputable def impl_BwtText.b : Code := bodyOf Tryz.f103
noncomputable def impl_BwtText (x0 : List Int) : Option ((List Int) × Bool) := callW impl_BwtText.c (fiOf (GT tab) Tryz.f103 impl_BwtText.ms) impl_BwtText.b (decRes tab impl_BwtText.rs) (encArgs tab impl_BwtText.as x0)
theorem impl_BwtText.fok : FnOk Tryz.prog 103 Tryz.f103 impl_BwtText.ms impl_BwtText.b := ⟨Tryz.func103, by kernel_rfl, by kernel_rfl⟩
noncomputable def impl_BwtText.fn : Args tab impl_BwtText.as → Option (ResT tab impl_BwtText.rs) := fun x => impl_BwtText x
theorem impl_BwtText.con {δ : Type} : Con Tryz.prog (KT tab) 103 (calleeS (β := δ) tab impl_BwtText.ms impl_BwtText.as impl_BwtText.rs impl_BwtText.fn) := con_shape (c := impl_BwtText.c) mixed tysOk (getG_con (impl_BwtText.gok _)) impl_BwtText.fok rfl rfl (fun _ => rfl)
noncomputable def impl_BwtText_l0 (v0 : List Int) : Option ((List Int) × Bool) := Lw impl_BwtText.c (finish impl_BwtText.c (fiOf (GT tab) Tryz.f103 impl_BwtText.ms) (decRes tab impl_BwtText.rs)) ((loops impl_BwtText.c.cuts 1000 impl_BwtText.b []).getD 0 []) { slots := [.vs false 3 v0, .undef, .undef, .undef, .undef, .undef, .undef, .undef, .undef, .undef, .undef, .undef, .undef, .undef, .undef, .undef, .undef, .undef, .undef, .undef, .undef, .undef, .undef, .undef, .undef, .undef, .undef, .undef, .undef, .undef, .undef, .undef, .undef, .undef, .undef, .undef, .undef, .undef, .undef, .undef, .undef, .undef, .undef, .undef, .undef, .undef, .undef, .undef, .undef, .undef, .undef, .undef, .undef], loc := locOf [], nx := 0 }
noncomputable def impl_BwtText_l1 (v0 : List Int) (v1 : Int) (v2 : Int) (v3 : List Int) (v4 : List Int) : Option ((List Int) × Bool) := Lw impl_BwtText.c (finish impl_BwtText.c (fiOf (GT tab) Tryz.f103 impl_BwtText.ms) (decRes tab impl_BwtText.rs)) ((loops impl_BwtText.c.cuts 1000 impl_BwtText.b []).getD 1 []) { slots := [.vs false 3 v0, .undef, .undef, .undef, .sl 0 0, .sl 1 0, .int .i64 v1, .int .i64 v2, .undef, .undef, .undef, .undef, .undef, .undef, .undef, .undef, .undef, .undef, .undef, .undef, .undef, .undef, .undef, .undef, .undef, .undef, .undef, .undef, .undef, .undef, .undef, .undef, .undef, .undef, .undef, .undef, .undef, .undef, .undef, .undef, .undef, .undef, .undef, .undef, .undef, .undef, .undef, .undef, .undef, .undef, .undef, .undef, .undef], loc := locOf [.row 0 true 3 v3, .row 0 true 5 v4], nx := 2 }
theorem impl_BwtText.eq (x0 : List Int) : impl_BwtText x0 =
    (impl_SymsOk x0).bind fun y1 =>
    bif !y1 then
      some (([] : List Int), false)
    else
      (impl_count x0 (0 : Int)).bind fun y2 =>
      bif y2 != (1 : Int) then
        some (([] : List Int), false)
      else
        impl_BwtText_l0 x0 := by kernel_rfl
theorem impl_BwtText_l0.eq (v0 : List Int) : impl_BwtText_l0 v0 =
    (impl_lfOf v0).bind fun y1 =>
    bif decide ((0 : Int) ≤ IntKind.i64.wrap ((v0.length : Int) - (1 : Int))) && decide (((IntKind.i64.wrap ((v0.length : Int) - (1 : Int))).toNat) * 1 ≤ 140737488355328) then
      impl_BwtText_l1 v0 (0 : Int) (IntKind.i64.wrap (((List.replicate ((IntKind.i64.wrap ((v0.length : Int) - (1 : Int))).toNat) (0 : Int)).length : Int) - (1 : Int))) y1 (List.replicate ((IntKind.i64.wrap ((v0.length : Int) - (1 : Int))).toNat) (0 : Int))
    else
      none := (Lw_eq tysOk (getG_con (impl_BwtText.gok _)) _ _).trans (by kernel_rfl)
theorem impl_BwtText_l1.eq (v0 : List Int) (v1 : Int) (v2 : Int) (v3 : List Int) (v4 : List Int) : impl_BwtText_l1 v0 v1 v2 v3 v4 =
    bif decide (v2 ≥ (0 : Int)) then
      (at? v0 v1).bind fun y1 =>
      bif y1 == (0 : Int) then
        some (([] : List Int), false)
      else
        (at? v0 v1).bind fun y2 =>
        (at? v4 v2).bind fun y3 =>
        v4[v2.toNat]?.bind fun y4 =>
        (at? v3 v1).bind fun y5 =>
        v3[v1.toNat]?.bind fun y6 =>
        impl_BwtText_l1 v0 y6 (IntKind.i64.wrap (v2 - (1 : Int))) v3 (v4.set v2.toNat (IntKind.u8.wrap (IntKind.i64.wrap (y2 - (1 : Int)))))
    else
      (impl_bwtOf v4).bind fun y7 =>
      (slices_Equal_int_int y7 v0).bind fun y8 =>
      bif !y8 then
        some (([] : List Int), false)
      else
        some (v4, true) := (Lw_eq tysOk (getG_con (impl_BwtText.gok _)) _ _).trans (by kernel_rfl)

/-! ### impl_WaveOf_1: loop.example/g00688/impl.WaveOf$1 -/
def impl_WaveOf_1.ms : List Mode := [.lend]
def impl_WaveOf_1.as : List VSh := [.one (.b (.b (.b (.b (.int .i64)))))]
def impl_WaveOf_1.rs : RSh := ⟨[.one (.b (.b (.b (.b (.bool)))))], [none]⟩
noncomputable def impl_WaveOf_1.gs (δ : Type) : List (Nat × Callee (GT tab) δ) := [(63, calleeS tab impl_within.ms impl_within.as impl_within.rs impl_within.fn)]
theorem impl_WaveOf_1.gok (δ : Type) : AllCon Tryz.prog tab (impl_WaveOf_1.gs δ) := .cons impl_within.con (.nil)
noncomputable def impl_WaveOf_1.c : Ctx (GT tab) (KT tab) (ResT tab impl_WaveOf_1.rs) := { X := XT tab, ty := tyOf tys, inner := fun _ => true, keep := keepOf 0 impl_WaveOf_1.ms, cuts := [], live := liveOf [], G := getG (impl_WaveOf_1.gs _) }
noncomputable def impl_WaveOf_1.b : Code := bodyOf Tryz.f190
noncomputable def impl_WaveOf_1 (x0 : Int) : Option (Bool) := callW impl_WaveOf_1.c (fiOf (GT tab) Tryz.f190 impl_WaveOf_1.ms) impl_WaveOf_1.b (decRes tab impl_WaveOf_1.rs) (encArgs tab impl_WaveOf_1.as x0)
theorem impl_WaveOf_1.fok : FnOk Tryz.prog 190 Tryz.f190 impl_WaveOf_1.ms impl_WaveOf_1.b := ⟨Tryz.func190, by kernel_rfl, by kernel_rfl⟩
noncomputable def impl_WaveOf_1.fn : Args tab impl_WaveOf_1.as → Option (ResT tab impl_WaveOf_1.rs) := fun x => impl_WaveOf_1 x
theorem impl_WaveOf_1.con {δ : Type} : Con Tryz.prog (KT tab) 190 (calleeS (β := δ) tab impl_WaveOf_1.ms impl_WaveOf_1.as impl_WaveOf_1.rs impl_WaveOf_1.fn) := con_shape (c := impl_WaveOf_1.c) mixed tysOk (getG_con (impl_WaveOf_1.gok _)) impl_WaveOf_1.fok rfl rfl (fun _ => rfl)
theorem impl_WaveOf_1.eq (x0 : Int) : impl_WaveOf_1 x0 =
    (impl_within x0 (0 : Int) (511 : Int)).bind fun y1 =>
    some y1 := by kernel_rfl

/-! ### impl_areAll_int_1_WaveOf_1: loop.example/g00688/impl.areAll[int]$1 -/
def impl_areAll_int_1_WaveOf_1.ms : List Mode := [.lend, .lend]
def impl_areAll_int_1_WaveOf_1.as : List VSh := [.one (.b (.b (.b (.b (.int .i64))))), .one (.ptr false 0 [.fn 190 []])]
def impl_areAll_int_1_WaveOf_1.rs : RSh := ⟨[.one (.b (.b (.b (.b (.bool)))))], [none, none]⟩
noncomputable def impl_areAll_int_1_WaveOf_1.gs (δ : Type) : List (Nat × Callee (GT tab) δ) := [(190, calleeS tab impl_WaveOf_1.ms impl_WaveOf_1.as impl_WaveOf_1.rs impl_WaveOf_1.fn)]
theorem impl_areAll_int_1_WaveOf_1.gok (δ : Type) : AllCon Tryz.prog tab (impl_areAll_int_1_WaveOf_1.gs δ) := .cons impl_WaveOf_1.con (.nil)
noncomputable def impl_areAll_int_1_WaveOf_1.c : Ctx (GT tab) (KT tab) (ResT tab impl_areAll_int_1_WaveOf_1.rs) := { X := XT tab, ty := tyOf tys, inner := fun _ => true, keep := keepOf 0 impl_areAll_int_1_WaveOf_1.ms, cuts := [], live := liveOf [], G := getG (impl_areAll_int_1_WaveOf_1.gs _) }
noncomputable def impl_areAll_int_1_WaveOf_1.b : Code := bodyOf Tryz.f213
noncomputable def impl_areAll_int_1_WaveOf_1 (x0 : Int) (x1 : Unit) : Option (Bool) := callW impl_areAll_int_1_WaveOf_1.c (fiOf (GT tab) Tryz.f213 impl_areAll_int_1_WaveOf_1.ms) impl_areAll_int_1_WaveOf_1.b (decRes tab impl_areAll_int_1_WaveOf_1.rs) (encArgs tab impl_areAll_int_1_WaveOf_1.as (x0, x1))
theorem impl_areAll_int_1_WaveOf_1.fok : FnOk Tryz.prog 213 Tryz.f213 impl_areAll_int_1_WaveOf_1.ms impl_areAll_int_1_WaveOf_1.b := ⟨Tryz.func213, by kernel_rfl, by kernel_rfl⟩
noncomputable def impl_areAll_int_1_WaveOf_1.fn : Args tab impl_areAll_int_1_WaveOf_1.as → Option (ResT tab impl_areAll_int_1_WaveOf_1.rs) := fun x => impl_areAll_int_1_WaveOf_1 x.1 x.2
theorem impl_areAll_int_1_WaveOf_1.con {δ : Type} : Con Tryz.prog (KT tab) 213 (calleeS (β := δ) tab impl_areAll_int_1_WaveOf_1.ms impl_areAll_int_1_WaveOf_1.as impl_areAll_int_1_WaveOf_1.rs impl_areAll_int_1_WaveOf_1.fn) := con_shape (c := impl_areAll_int_1_WaveOf_1.c) mixed tysOk (getG_con (impl_areAll_int_1_WaveOf_1.gok _)) impl_areAll_int_1_WaveOf_1.fok rfl rfl (fun _ => rfl)
theorem impl_areAll_int_1_WaveOf_1.eq (x0 : Int) (x1 : Unit) : impl_areAll_int_1_WaveOf_1 x0 x1 =
    (impl_WaveOf_1 x0).bind fun y1 =>
    some (!y1) := by kernel_rfl

/-! ### slices_IndexFunc_int_int_areAll_int_1_WaveOf_1: slices.IndexFunc[[]int,int] -/
def slices_IndexFunc_int_int_areAll_int_1_WaveOf_1.ms : List Mode := [.lend, .lend]
def slices_IndexFunc_int_int_areAll_int_1_WaveOf_1.as : List VSh := [.one (.b (.b (.b (.b (.sl false false 3))))), .one (.fn 213 [.ptr false 0 [.fn 190 []]])]
def slices_IndexFunc_int_int_areAll_int_1_WaveOf_1.rs : RSh := ⟨[.one (.b (.b (.b (.b (.int .i64)))))], [none, none]⟩
noncomputable def slices_IndexFunc_int_int_areAll_int_1_WaveOf_1.gs (δ : Type) : List (Nat × Callee (GT tab) δ) := [(213, calleeS tab impl_areAll_int_1_WaveOf_1.ms impl_areAll_int_1_WaveOf_1.as impl_areAll_int_1_WaveOf_1.rs impl_areAll_int_1_WaveOf_1.fn)]
theorem slices_IndexFunc_int_int_areAll_int_1_WaveOf_1.gok (δ : Type) : AllCon Tryz.prog tab (slices_IndexFunc_int_int_areAll_int_1_WaveOf_1.gs δ) := .cons impl_areAll_int_1_WaveOf_1.con (.nil)
noncomputable def slices_IndexFunc_int_int_areAll_int_1_WaveOf_1.c : Ctx (GT tab) (KT tab) (ResT tab slices_IndexFunc_int_int_areAll_int_1_WaveOf_1.rs) := { X := XT tab, ty := tyOf tys, inner := fun _ => true, keep := keepOf 0 slices_IndexFunc_int_int_areAll_int_1_WaveOf_1.ms, cuts := [], live := liveOf [(2, [0, 1, 7, 8])], G := getG (slices_IndexFunc_int_int_areAll_int_1_WaveOf_1.gs _) }
noncomputable def slices_IndexFunc_int_int_areAll_int_1_WaveOf_1.b : Code := bodyOf Tryz.f221
noncomputable def slices_IndexFunc_int_int_areAll_int_1_WaveOf_1 (x0 : List Int) (x1 : Unit) : Option (Int) := callW slices_IndexFunc_int_int_areAll_int_1_WaveOf_1.c (fiOf (GT tab) Tryz.f221 slices_IndexFunc_int_int_areAll_int_1_WaveOf_1.ms) slices_IndexFunc_int_int_areAll_int_1_WaveOf_1.b (decRes tab slices_IndexFunc_int_int_areAll_int_1_WaveOf_1.rs) (encArgs tab slices_IndexFunc_int_int_areAll_int_1_WaveOf_1.as (x0, x1))
theorem slices_IndexFunc_int_int_areAll_int_1_WaveOf_1.fok : FnOk Tryz.prog 221 Tryz.f221 slices_IndexFunc_int_int_areAll_int_1_WaveOf_1.ms slices_IndexFunc_int_int_areAll_int_1_WaveOf_1.b := ⟨Tryz.func221, by kernel_rfl, by kernel_rfl⟩
noncomputable def slices_IndexFunc_int_int_areAll_int_1_WaveOf_1.fn : Args tab slices_IndexFunc_int_int_areAll_int_1_WaveOf_1.as → Option (ResT tab slices_IndexFunc_int_int_areAll_int_1_WaveOf_1.rs) := fun x => slices_IndexFunc_int_int_areAll_int_1_WaveOf_1 x.1 x.2
theorem slices_IndexFunc_int_int_areAll_int_1_WaveOf_1.con {δ : Type} : Con Tryz.prog (KT tab) 221 (calleeS (β := δ) tab slices_IndexFunc_int_int_areAll_int_1_WaveOf_1.ms slices_IndexFunc_int_int_areAll_int_1_WaveOf_1.as slices_IndexFunc_int_int_areAll_int_1_WaveOf_1.rs slices_IndexFunc_int_int_areAll_int_1_WaveOf_1.fn) := con_shape (c := slices_IndexFunc_int_int_areAll_int_1_WaveOf_1.c) mixed tysOk (getG_con (slices_IndexFunc_int_int_areAll_int_1_WaveOf_1.gok _)) slices_IndexFunc_int_int_areAll_int_1_WaveOf_1.fok rfl rfl (fun _ => rfl)
noncomputable def slices_IndexFunc_int_int_areAll_int_1_WaveOf_1_l0 (v0 : List Int) (v1 : Int) (v2 : Int) : Option (Int) := Lw slices_IndexFunc_int_int_areAll_int_1_WaveOf_1.c (finish slices_IndexFunc_int_int_areAll_int_1_WaveOf_1.c (fiOf (GT tab) Tryz.f221 slices_IndexFunc_int_int_areAll_int_1_WaveOf_1.ms) (decRes tab slices_IndexFunc_int_int_areAll_int_1_WaveOf_1.rs)) ((loops slices_IndexFunc_int_int_areAll_int_1_WaveOf_1.c.cuts 1000 slices_IndexFunc_int_int_areAll_int_1_WaveOf_1.b []).getD 0 []) { slots := [.vs false 3 v0, .fn 213 [.vp [.fn 190 []]], .undef, .undef, .undef, .undef, .undef, .int .i64 v1, .int .i64 v2, .undef, .undef, .undef, .undef, .undef, .undef, .undef, .undef, .undef, .undef], loc := locOf [], nx := 0 }
theorem slices_IndexFunc_int_int_areAll_int_1_WaveOf_1.eq (x0 : List Int) (x1 : Unit) : slices_IndexFunc_int_int_areAll_int_1_WaveOf_1 x0 x1 =
    slices_IndexFunc_int_int_areAll_int_1_WaveOf_1_l0 x0 (x0.length : Int) (0 : Int) := by kernel_rfl
theorem slices_IndexFunc_int_int_areAll_int_1_WaveOf_1_l0.eq (v0 : List Int) (v1 : Int) (v2 : Int) : slices_IndexFunc_int_int_areAll_int_1_WaveOf_1_l0 v0 v1 v2 =
    bif decide (v2 < v1) then
      (at? v0 v2).bind fun y1 =>
      (impl_areAll_int_1_WaveOf_1 y1 ()).bind fun y2 =>
      bif y2 then
        some v2
      else
        slices_IndexFunc_int_int_areAll_int_1_WaveOf_1_l0 v0 v1 (IntKind.i64.wrap (v2 + (1 : Int)))
    else
      some (-1 : Int) := (Lw_eq tysOk (getG_con (slices_IndexFunc_int_int_areAll_int_1_WaveOf_1.gok _)) _ _).trans (by kernel_rfl)

/-! ### slices_ContainsFunc_int_int_areAll_int_1_WaveOf_1: slices.ContainsFunc[[]int,int] -/
def slices_ContainsFunc_int_int_areAll_int_1_WaveOf_1.ms : List Mode := [.lend, .lend]
def slices_ContainsFunc_int_int_areAll_int_1_WaveOf_1.as : List VSh := [.one (.b (.b (.b (.b (.sl false false 3))))), .one (.fn 213 [.ptr false 86 [.fn 190 []]])]
def slices_ContainsFunc_int_int_areAll_int_1_WaveOf_1.rs : RSh := ⟨[.one (.b (.b (.b (.b (.bool)))))], [none, none]⟩
noncomputable def slices_ContainsFunc_int_int_areAll_int_1_WaveOf_1.gs (δ : Type) : List (Nat × Callee (GT tab) δ) := [(221, calleeS tab slices_IndexFunc_int_int_areAll_int_1_WaveOf_1.ms slices_IndexFunc_int_int_areAll_int_1_WaveOf_1.as slices_IndexFunc_int_int_areAll_int_1_WaveOf_1.rs slices_IndexFunc_int_int_areAll_int_1_WaveOf_1.fn)]
theorem slices_ContainsFunc_int_int_areAll_int_1_WaveOf_1.gok (δ : Type) : AllCon Tryz.prog tab (slices_ContainsFunc_int_int_areAll_int_1_WaveOf_1.gs δ) := .cons slices_IndexFunc_int_int_areAll_int_1_WaveOf_1.con (.nil)
noncomputable def slices_ContainsFunc_int_int_areAll_int_1_WaveOf_1.c : Ctx (GT tab) (KT tab) (ResT tab slices_ContainsFunc_int_int_areAll_int_1_WaveOf_1.rs) := { X := XT tab, ty := tyOf tys, inner := fun _ => true, keep := keepOf 0 slices_ContainsFunc_int_int_areAll_int_1_WaveOf_1.ms, cuts := [], live := liveOf [], G := getG (slices_ContainsFunc_int_int_areAll_int_1_WaveOf_1.gs _) }
noncomputable def slices_ContainsFunc_int_int_areAll_int_1_WaveOf_1.b : Code := bodyOf Tryz.f212
noncomputable def slices_ContainsFunc_int_int_areAll_int_1_WaveOf_1 (x0 : List Int) (x1 : Unit) : Option (Bool) := callW slices_ContainsFunc_int_int_areAll_int_1_WaveOf_1.c (fiOf (GT tab) Tryz.f212 slices_ContainsFunc_int_int_areAll_int_1_WaveOf_1.ms) slices_ContainsFunc_int_int_areAll_int_1_WaveOf_1.b (decRes tab slices_ContainsFunc_int_int_areAll_int_1_WaveOf_1.rs) (encArgs tab slices_ContainsFunc_int_int_areAll_int_1_WaveOf_1.as (x0, x1))
theorem slices_ContainsFunc_int_int_areAll_int_1_WaveOf_1.fok : FnOk Tryz.prog 212 Tryz.f212 slices_ContainsFunc_int_int_areAll_int_1_WaveOf_1.ms slices_ContainsFunc_int_int_areAll_int_1_WaveOf_1.b := ⟨Tryz.func212, by kernel_rfl, by kernel_rfl⟩
noncomputable def slices_ContainsFunc_int_int_areAll_int_1_WaveOf_1.fn : Args tab slices_ContainsFunc_int_int_areAll_int_1_WaveOf_1.as → Option (ResT tab slices_ContainsFunc_int_int_areAll_int_1_WaveOf_1.rs) := fun x => slices_ContainsFunc_int_int_areAll_int_1_WaveOf_1 x.1 x.2
theorem slices_ContainsFunc_int_int_areAll_int_1_WaveOf_1.con {δ : Type} : Con Tryz.prog (KT tab) 212 (calleeS (β := δ) tab slices_ContainsFunc_int_int_areAll_int_1_WaveOf_1.ms slices_ContainsFunc_int_int_areAll_int_1_WaveOf_1.as slices_ContainsFunc_int_int_areAll_int_1_WaveOf_1.rs slices_ContainsFunc_int_int_areAll_int_1_WaveOf_1.fn) := con_shape (c := slices_ContainsFunc_int_int_areAll_int_1_WaveOf_1.c) mixed tysOk (getG_con (slices_ContainsFunc_int_int_areAll_int_1_WaveOf_1.gok _)) slices_ContainsFunc_int_int_areAll_int_1_WaveOf_1.fok rfl rfl (fun _ => rfl)
theorem slices_ContainsFunc_int_int_areAll_int_1_WaveOf_1.eq (x0 : List Int) (x1 : Unit) : slices_ContainsFunc_int_int_areAll_int_1_WaveOf_1 x0 x1 =
    (slices_IndexFunc_int_int_areAll_int_1_WaveOf_1 x0 ()).bind fun y1 =>
    some (decide (y1 ≥ (0 : Int))) := by kernel_rfl

/-! ### impl_areAll_int_WaveOf_1: loop.example/g00688/impl.areAll[int] -/
def impl_areAll_int_WaveOf_1.ms : List Mode := [.lend, .lend]
def impl_areAll_int_WaveOf_1.as : List VSh := [.one (.b (.b (.b (.b (.sl false false 3))))), .one (.fn 190 [])]
def impl_areAll_int_WaveOf_1.rs : RSh := ⟨[.one (.b (.b (.b (.b (.bool)))))], [none, none]⟩
noncomputable def impl_areAll_int_WaveOf_1.gs (δ : Type) : List (Nat × Callee (GT tab) δ) := [(212, calleeS tab slices_ContainsFunc_int_int_areAll_int_1_WaveOf_1.ms slices_ContainsFunc_int_int_areAll_int_1_WaveOf_1.as slices_ContainsFunc_int_int_areAll_int_1_WaveOf_1.rs slices_ContainsFunc_int_int_areAll_int_1_WaveOf_1.fn)]
theorem impl_areAll_int_WaveOf_1.gok (δ : Type) : AllCon Tryz.prog tab (impl_areAll_int_WaveOf_1.gs δ) := .cons slices_ContainsFunc_int_int_areAll_int_1_WaveOf_1.con (.nil)
noncomputable def impl_areAll_int_WaveOf_1.c : Ctx (GT tab) (KT tab) (ResT tab impl_areAll_int_WaveOf_1.rs) := { X := XT tab, ty := tyOf tys, inner := fun _ => true, keep := keepOf 0 impl_areAll_int_WaveOf_1.ms, cuts := [], live := liveOf [], G := getG (impl_areAll_int_WaveOf_1.gs _) }
noncomputable def impl_areAll_int_WaveOf_1.b : Code := bodyOf Tryz.f188
noncomputable def impl_areAll_int_WaveOf_1 (x0 : List Int) (x1 : Unit) : Option (Bool) := callW impl_areAll_int_WaveOf_1.c (fiOf (GT tab) Tryz.f188 impl_areAll_int_WaveOf_1.ms) impl_areAll_int_WaveOf_1.b (decRes tab impl_areAll_int_WaveOf_1.rs) (encArgs tab impl_areAll_int_WaveOf_1.as (x0, x1))
theorem impl_areAll_int_WaveOf_1.fok : FnOk Tryz.prog 188 Tryz.f188 impl_areAll_int_WaveOf_1.ms impl_areAll_int_WaveOf_1.b := ⟨Tryz.func188, by kernel_rfl, by kernel_rfl⟩
noncomputable def impl_areAll_int_WaveOf_1.fn : Args tab impl_areAll_int_WaveOf_1.as → Option (ResT tab impl_areAll_int_WaveOf_1.rs) := fun x => impl_areAll_int_WaveOf_1 x.1 x.2
theorem impl_areAll_int_WaveOf_1.con {δ : Type} : Con Tryz.prog (KT tab) 188 (calleeS (β := δ) tab impl_areAll_int_WaveOf_1.ms impl_areAll_int_WaveOf_1.as impl_areAll_int_WaveOf_1.rs impl_areAll_int_WaveOf_1.fn) := con_shape (c := impl_areAll_int_WaveOf_1.c) mixed tysOk (getG_con (impl_areAll_int_WaveOf_1.gok _)) impl_areAll_int_WaveOf_1.fok rfl rfl (fun _ => rfl)
theorem impl_areAll_int_WaveOf_1.eq (x0 : List Int) (x1 : Unit) : impl_areAll_int_WaveOf_1 x0 x1 =
    (slices_ContainsFunc_int_int_areAll_int_1_WaveOf_1 x0 ()).bind fun y1 =>
    some (!y1) := by kernel_rfl

/-! ### impl_bitsOf: loop.example/g00688/impl.bitsOf -/
def impl_bitsOf.ms : List Mode := [.lend]
def impl_bitsOf.as : List VSh := [.one (.b (.b (.b (.b (.sl false false 3)))))]
def impl_bitsOf.rs : RSh := ⟨[.agg [.int .i64, .sl true true 126]], [none]⟩
noncomputable def impl_bitsOf.gs (δ : Type) : List (Nat × Callee (GT tab) δ) := []
theorem impl_bitsOf.gok (δ : Type) : AllCon Tryz.prog tab (impl_bitsOf.gs δ) := .nil
noncomputable def impl_bitsOf.c : Ctx (GT tab) (KT tab) (ResT tab impl_bitsOf.rs) := { X := XT tab, ty := tyOf tys, inner := fun _ => true, keep := keepOf 0 impl_bitsOf.ms, cuts := [], live := liveOf [(3, [2, 3, 15, 16, 17])], G := getG (impl_bitsOf.gs _) }
noncomputable def impl_bitsOf.b : Code := bodyOf Tryz.f158
noncomputable def impl_bitsOf (x0 : List Int) : Option (Int × (List Int)) := callW impl_bitsOf.c (fiOf (GT tab) Tryz.f158 impl_bitsOf.ms) impl_bitsOf.b (decRes tab impl_bitsOf.rs) (encArgs tab impl_bitsOf.as x0)
theorem impl_bitsOf.fok : FnOk Tryz.prog 158 Tryz.f158 impl_bitsOf.ms impl_bitsOf.b := ⟨Tryz.func158, by kernel_rfl, by kernel_rfl⟩
noncomputable def impl_bitsOf.fn : Args tab impl_bitsOf.as → Option (ResT tab impl_bitsOf.rs) := fun x => impl_bitsOf x
theorem impl_bitsOf.con {δ : Type} : Con Tryz.prog (KT tab) 158 (calleeS (β := δ) tab impl_bitsOf.ms impl_bitsOf.as impl_bitsOf.rs impl_bitsOf.fn) := con_shape (c := impl_bitsOf.c) mixed tysOk (getG_con (impl_bitsOf.gok _)) impl_bitsOf.fok rfl rfl (fun _ => rfl)
noncomputable def impl_bitsOf_l0 (v0 : List Int) (v1 : Int) (v2 : Int) (v3 : Int) (v4 : List Int) (v5 : Int) (v6 : List Int) : Option (Int × (List Int)) := Lw impl_bitsOf.c (finish impl_bitsOf.c (fiOf (GT tab) Tryz.f158 impl_bitsOf.ms) (decRes tab impl_bitsOf.rs)) ((loops impl_bitsOf.c.cuts 1000 impl_bitsOf.b []).getD 0 []) { slots := [.undef, .undef, .ptr 0 0, .ptr 2 0, .undef, .undef, .undef, .undef, .undef, .undef, .undef, .undef, .undef, .undef, .undef, .vs false 3 v0, .int .i64 v1, .int .i64 v2, .undef, .undef, .undef, .undef, .undef, .undef, .undef, .undef, .undef, .undef, .undef, .undef, .undef, .undef, .undef, .undef, .undef, .undef, .undef], loc := locOf [.box 30 [.int .i64 v3, .sl 1 0], .row 0 true 126 v4, .box 30 [.int .i64 v5, .sl 3 0], .row 0 true 126 v6], nx := 4 }
theorem impl_bitsOf.eq (x0 : List Int) : impl_bitsOf x0 =
    bif decide ((0 : Int) ≤ IntKind.i64.wrap ((IntKind.i64.wrap ((IntKind.i64.wrap ((x0.length : Int) + (64 : Int))) - (1 : Int))).tdiv (64 : Int))) && decide (((IntKind.i64.wrap ((IntKind.i64.wrap ((IntKind.i64.wrap ((x0.length : Int) + (64 : Int))) - (1 : Int))).tdiv (64 : Int))).toNat) * 8 ≤ 140737488355328) then
      impl_bitsOf_l0 x0 (x0.length : Int) (0 : Int) (0 : Int) ([] : List Int) (x0.length : Int) (List.replicate ((IntKind.i64.wrap ((IntKind.i64.wrap ((IntKind.i64.wrap ((x0.length : Int) + (64 : Int))) - (1 : Int))).tdiv (64 : Int))).toNat) (0 : Int))
    else
      none := by kernel_rfl
theorem impl_bitsOf_l0.eq (v0 : List Int) (v1 : Int) (v2 : Int) (v3 : Int) (v4 : List Int) (v5 : Int) (v6 : List Int) : impl_bitsOf_l0 v0 v1 v2 v3 v4 v5 v6 =
    bif decide (v2 < v1) then
      (at? v0 v2).bind fun y1 =>
      (at? v6 (IntKind.i64.wrap (v2.tdiv (64 : Int)))).bind fun y2 =>
      v6[(IntKind.i64.wrap (v2.tdiv (64 : Int))).toNat]?.bind fun y3 =>
      bif decide (v2.tmod (64 : Int) < (0 : Int)) then
        none
      else
        (at? v6 (IntKind.i64.wrap (v2.tdiv (64 : Int)))).bind fun y4 =>
        v6[(IntKind.i64.wrap (v2.tdiv (64 : Int))).toNat]?.bind fun y5 =>
        impl_bitsOf_l0 v0 v1 (IntKind.i64.wrap (v2 + (1 : Int))) v3 v4 v5 (v6.set ((IntKind.i64.wrap (v2.tdiv (64 : Int))).toNat) (IntKind.u64.wrap (((BitVec.ofInt 64 y3) ||| (BitVec.ofInt 64 (IntKind.u64.wrap ((IntKind.u64.wrap y1) * 2 ^ (min (v2.tmod (64 : Int)).toNat 64))))).toNat : Int)))
    else
      some (v5, v6) := (Lw_eq tysOk (getG_con (impl_bitsOf.gok _)) _ _).trans (by kernel_rfl)

/-! ### slices_Grow_int_int: slices.Grow[[]int,int] (by hand) -/
def slices_Grow_int_int.ms : List Mode := [.give, .lend]
def slices_Grow_int_int.as : List VSh := [.one (.b (.b (.b (.b (.sl true true 3))))), .one (.b (.b (.b (.b (.int .i64)))))]
def slices_Grow_int_int.rs : RSh := ⟨[.one (.b (.b (.b (.b (.sl true true 3)))))], [none, none]⟩
noncomputable def slices_Grow_int_int (x0 : List Int) (x1 : Int) : Option (List Int) := growF 8 (x0, x1)
noncomputable def slices_Grow_int_int.fn : Args tab slices_Grow_int_int.as → Option (ResT tab slices_Grow_int_int.rs) := fun x => slices_Grow_int_int x.1 x.2
theorem slices_Grow_int_int.con {δ : Type} : Con Tryz.prog (KT tab) 214 (calleeS (β := δ) tab slices_Grow_int_int.ms slices_Grow_int_int.as slices_Grow_int_int.rs slices_Grow_int_int.fn) := con_grow2 Tryz.laysGrow214 rfl rfl (ty := tyOf tys) tysOk (e := 3) rfl (by decide) rfl rfl

/-! ### slices_Concat_int_int: slices.Concat[[]int,int] -/
def slices_Concat_int_int.ms : List Mode := [.lend]
def slices_Concat_int_int.as : List VSh := [.one (.b (.b (.b (.b (.sl false false 24)))))]
def slices_Concat_int_int.rs : RSh := ⟨[.one (.b (.b (.b (.b (.sl true true 3)))))], [none]⟩
noncomputable def slices_Concat_int_int.gs (δ : Type) : List (Nat × Callee (GT tab) δ) := [(214, calleeS tab slices_Grow_int_int.ms slices_Grow_int_int.as slices_Grow_int_int.rs slices_Grow_int_int.fn)]
theorem slices_Concat_int_int.gok (δ : Type) : AllCon Tryz.prog tab (slices_Concat_int_int.gs δ) := .cons slices_Grow_int_int.con (.nil)
noncomputable def slices_Concat_int_int.c : Ctx (GT tab) (KT tab) (ResT tab slices_Concat_int_int.rs) := { X := XT tab, ty := tyOf tys, inner := fun _ => true, keep := keepOf 0 slices_Concat_int_int.ms, cuts := [], live := liveOf [(3, [0, 3, 9, 10, 11]), (11, [6, 25, 26, 27])], G := getG (slices_Concat_int_int.gs _) }
noncomputable def slices_Concat_int_int.b : Code := bodyOf Tryz.f191
noncomputable def slices_Concat_int_int (x0 : List (List Int)) : Option (List Int) := callW slices_Concat_int_int.c (fiOf (GT tab) Tryz.f191 slices_Concat_int_int.ms) slices_Concat_int_int.b (decRes tab slices_Concat_int_int.rs) (encArgs tab slices_Concat_int_int.as x0)
theorem slices_Concat_int_int.fok : FnOk Tryz.prog 191 Tryz.f191 slices_Concat_int_int.ms slices_Concat_int_int.b := ⟨Tryz.func191, by kernel_rfl, by kernel_rfl⟩
noncomputable def slices_Concat_int_int.fn : Args tab slices_Concat_int_int.as → Option (ResT tab slices_Concat_int_int.rs) := fun x => slices_Concat_int_int x
theorem slices_Concat_int_int.con {δ : Type} : Con Tryz.prog (KT tab) 191 (calleeS (β := δ) tab slices_Concat_int_int.ms slices_Concat_int_int.as slices_Concat_int_int.rs slices_Concat_int_int.fn) := con_shape (c := slices_Concat_int_int.c) mixed tysOk (getG_con (slices_Concat_int_int.gok _)) slices_Concat_int_int.fok rfl rfl (fun _ => rfl)
noncomputable def slices_Concat_int_int_l0 (v0 : List (List Int)) (v1 : Int) (v2 : List (List Int)) (v3 : Int) (v4 : Int) : Option (List Int) := Lw slices_Concat_int_int.c (finish slices_Concat_int_int.c (fiOf (GT tab) Tryz.f191 slices_Concat_int_int.ms) (decRes tab slices_Concat_int_int.rs)) ((loops slices_Concat_int_int.c.cuts 1000 slices_Concat_int_int.b []).getD 0 []) { slots := [.vs false 24 v0, .undef, .undef, .int .i64 v1, .undef, .undef, .undef, .undef, .undef, .vs false 24 v2, .int .i64 v3, .int .i64 v4, .undef, .undef, .undef, .undef, .undef, .undef, .undef, .undef, .undef, .undef, .undef, .undef, .undef, .undef, .undef, .undef, .undef, .undef, .undef, .undef, .undef, .undef, .undef, .undef], loc := locOf [], nx := 0 }
noncomputable def slices_Concat_int_int_l1 (v0 : List (List Int)) (v1 : Int) (v2 : Int) (v3 : List Int) : Option (List Int) := Lw slices_Concat_int_int.c (finish slices_Concat_int_int.c (fiOf (GT tab) Tryz.f191 slices_Concat_int_int.ms) (decRes tab slices_Concat_int_int.rs)) ((loops slices_Concat_int_int.c.cuts 1000 slices_Concat_int_int.b []).getD 1 []) { slots := [.undef, .undef, .undef, .undef, .undef, .undef, .sl 0 0, .undef, .undef, .undef, .undef, .undef, .undef, .undef, .undef, .undef, .undef, .undef, .undef, .undef, .undef, .undef, .undef, .undef, .undef, .vs false 24 v0, .int .i64 v1, .int .i64 v2, .undef, .undef, .undef, .undef, .undef, .undef, .undef, .undef], loc := locOf [.row 0 true 3 v3], nx := 1 }
theorem slices_Concat_int_int.eq (x0 : List (List Int)) : slices_Concat_int_int x0 =
    slices_Concat_int_int_l0 x0 (0 : Int) x0 (x0.length : Int) (0 : Int) := by kernel_rfl
theorem slices_Concat_int_int_l0.eq (v0 : List (List Int)) (v1 : Int) (v2 : List (List Int)) (v3 : Int) (v4 : Int) : slices_Concat_int_int_l0 v0 v1 v2 v3 v4 =
    bif decide (v4 < v3) then
      (at? v2 v4).bind fun y1 =>
      bif decide (IntKind.i64.wrap (v1 + (y1.length : Int)) < (0 : Int)) then
        none
      else
        slices_Concat_int_int_l0 v0 (IntKind.i64.wrap (v1 + (y1.length : Int))) v2 v3 (IntKind.i64.wrap (v4 + (1 : Int)))
    else
      (slices_Grow_int_int ([] : List Int) v1).bind fun y2 =>
      slices_Concat_int_int_l1 v0 (v0.length : Int) (0 : Int) y2 := (Lw_eq tysOk (getG_con (slices_Concat_int_int.gok _)) _ _).trans (by kernel_rfl)
theorem slices_Concat_int_int_l1.eq (v0 : List (List Int)) (v1 : Int) (v2 : Int) (v3 : List Int) : slices_Concat_int_int_l1 v0 v1 v2 v3 =
    bif decide (v2 < v1) then
      (at? v0 v2).bind fun y1 =>
      bif decide ((v3.length + y1.length) * 8 ≤ 140737488355328) then
        slices_Concat_int_int_l1 v0 v1 (IntKind.i64.wrap (v2 + (1 : Int))) (v3 ++ y1)
      else
        none
    else
      some v3 := (Lw_eq tysOk (getG_con (slices_Concat_int_int.gok _)) _ _).trans (by kernel_rfl)

end Go.Ev.W
