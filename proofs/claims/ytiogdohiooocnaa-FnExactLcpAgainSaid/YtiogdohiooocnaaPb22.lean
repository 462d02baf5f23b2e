/- What functions of the program come to. -/
import Derived.Test.YtiogdohiooocnaaPbT
namespace Go.Ev.W
open Go.Ev Go.Proofs
set_option maxRecDepth 100000
set_option linter.unusedVariables false

/-! ### spec_TextOk: loop.example/g00688/spec.TextOk -/
def spec_TextOk.ms : List Mode := [.lend]
def spec_TextOk.as : List VSh := [.one (.b (.b (.b (.b (.sl false false 5)))))]
def spec_TextOk.rs : RSh := ⟨[.one (.b (.b (.b (.b (.bool)))))], [none]⟩
noncomputable def spec_TextOk.gs (δ : Type) : List (Nat × Callee (GT tab) δ) := []
theorem spec_TextOk.gok (δ : Type) : AllCon Try.prog tab (spec_TextOk.gs δ) := .nil
noncomputable def spec_TextOk.c : Ctx (GT tab) (KT tab) (ResT tab spec_TextOk.rs) := { X := XT tab, ty := tyOf tys, inner := fun _ => true, keep := keepOf 0 spec_TextOk.ms, cuts := [], live := liveOf [], G := getG (spec_TextOk.gs _) }
noncomputable def spec_TextOk.b : Code := bodyOf Try.f100
noncomputable def spec_TextOk (x0 : List Int) : Option (Bool) := callW spec_TextOk.c (fiOf (GT tab) Try.f100 spec_TextOk.ms) spec_TextOk.b (decRes tab spec_TextOk.rs) (encArgs tab spec_TextOk.as x0)
theorem spec_TextOk.fok : FnOk Try.prog 100 Try.f100 spec_TextOk.ms spec_TextOk.b := ⟨Try.func100, by kernel_rfl, by kernel_rfl⟩
noncomputable def spec_TextOk.fn : Args tab spec_TextOk.as → Option (ResT tab spec_TextOk.rs) := fun x => spec_TextOk x
theorem spec_TextOk.con {δ : Type} : Con Try.prog (KT tab) 100 (calleeS (β := δ) tab spec_TextOk.ms spec_TextOk.as spec_TextOk.rs spec_TextOk.fn) := con_shape (c := spec_TextOk.c) mixed tysOk (getG_con (spec_TextOk.gok _)) spec_TextOk.fok rfl rfl (fun _ => rfl)
theorem spec_TextOk.eq (x0 : List Int) : spec_TextOk x0 =
    some (decide ((x0.length : Int) ≤ (300 : Int))) := by kernel_rfl

/-! ### spec_l05Cmp: loop.example/g00688/spec.l05Cmp -/
def spec_l05Cmp.ms : List Mode := [.lend, .lend]
def spec_l05Cmp.as : List VSh := [.one (.b (.b (.b (.b (.sl false false 5))))), .one (.b (.b (.b (.b (.sl false false 5)))))]
def spec_l05Cmp.rs : RSh := ⟨[.one (.b (.b (.b (.b (.int .i64)))))], [none, none]⟩
noncomputable def spec_l05Cmp.gs (δ : Type) : List (Nat × Callee (GT tab) δ) := []
theorem spec_l05Cmp.gok (δ : Type) : AllCon Try.prog tab (spec_l05Cmp.gs δ) := .nil
noncomputable def spec_l05Cmp.c : Ctx (GT tab) (KT tab) (ResT tab spec_l05Cmp.rs) := { X := XT tab, ty := tyOf tys, inner := fun _ => true, keep := keepOf 0 spec_l05Cmp.ms, cuts := [4], live := liveOf [(2, [0, 1, 5]), (4, [0, 1, 5])], G := getG (spec_l05Cmp.gs _) }
noncomputable def spec_l05Cmp.b : Code := bodyOf Try.f175
noncomputable def spec_l05Cmp (x0 : List Int) (x1 : List Int) : Option (Int) := callW spec_l05Cmp.c (fiOf (GT tab) Try.f175 spec_l05Cmp.ms) spec_l05Cmp.b (decRes tab spec_l05Cmp.rs) (encArgs tab spec_l05Cmp.as (x0, x1))
theorem spec_l05Cmp.fok : FnOk Try.prog 175 Try.f175 spec_l05Cmp.ms spec_l05Cmp.b := ⟨Try.func175, by kernel_rfl, by kernel_rfl⟩
noncomputable def spec_l05Cmp.fn : Args tab spec_l05Cmp.as → Option (ResT tab spec_l05Cmp.rs) := fun x => spec_l05Cmp x.1 x.2
theorem spec_l05Cmp.con {δ : Type} : Con Try.prog (KT tab) 175 (calleeS (β := δ) tab spec_l05Cmp.ms spec_l05Cmp.as spec_l05Cmp.rs spec_l05Cmp.fn) := con_shape (c := spec_l05Cmp.c) mixed tysOk (getG_con (spec_l05Cmp.gok _)) spec_l05Cmp.fok rfl rfl (fun _ => rfl)
noncomputable def spec_l05Cmp_l0 (v0 : List Int) (v1 : List Int) (v2 : Int) : Option (Int) := Lw spec_l05Cmp.c (finish spec_l05Cmp.c (fiOf (GT tab) Try.f175 spec_l05Cmp.ms) (decRes tab spec_l05Cmp.rs)) ((loops spec_l05Cmp.c.cuts 1000 spec_l05Cmp.b []).getD 0 []) { slots := [.vs false 5 v0, .vs false 5 v1, .undef, .undef, .undef, .int .i64 v2, .undef, .undef, .undef, .undef, .undef, .undef, .undef, .undef, .undef, .undef, .undef, .undef, .undef, .undef, .undef, .undef, .undef, .undef, .undef, .undef, .undef, .undef, .undef, .undef, .undef, .undef, .undef, .undef, .undef, .undef, .undef, .undef, .undef, .undef, .undef, .undef, .undef, .undef, .undef, .undef], loc := locOf [], nx := 0 }
noncomputable def spec_l05Cmp_l1 (v0 : List Int) (v1 : List Int) (v2 : Int) : Option (Int) := Lw spec_l05Cmp.c (finish spec_l05Cmp.c (fiOf (GT tab) Try.f175 spec_l05Cmp.ms) (decRes tab spec_l05Cmp.rs)) ((loops spec_l05Cmp.c.cuts 1000 spec_l05Cmp.b []).getD 1 []) { slots := [.vs false 5 v0, .vs false 5 v1, .undef, .undef, .undef, .int .i64 v2, .undef, .undef, .undef, .undef, .undef, .undef, .undef, .undef, .undef, .undef, .undef, .undef, .undef, .undef, .undef, .undef, .undef, .undef, .undef, .undef, .undef, .undef, .undef, .undef, .undef, .undef, .undef, .undef, .undef, .undef, .undef, .undef, .undef, .undef, .undef, .undef, .undef, .undef, .undef, .undef], loc := locOf [], nx := 0 }
theorem spec_l05Cmp.eq (x0 : List Int) (x1 : List Int) : spec_l05Cmp x0 x1 =
    spec_l05Cmp_l0 x0 x1 (0 : Int) := by kernel_rfl
theorem spec_l05Cmp_l0.eq (v0 : List Int) (v1 : List Int) (v2 : Int) : spec_l05Cmp_l0 v0 v1 v2 =
    bif decide (v2 < (v0.length : Int)) then
      bif decide (v2 < (v1.length : Int)) then
        spec_l05Cmp_l1 v0 v1 v2
      else
        bif decide ((v0.length : Int) < (v1.length : Int)) then
          some (-1 : Int)
        else
          bif decide ((v0.length : Int) > (v1.length : Int)) then
            some (1 : Int)
          else
            some (0 : Int)
    else
      bif decide ((v0.length : Int) < (v1.length : Int)) then
        some (-1 : Int)
      else
        bif decide ((v0.length : Int) > (v1.length : Int)) then
          some (1 : Int)
        else
          some (0 : Int) := (Lw_eq tysOk (getG_con (spec_l05Cmp.gok _)) _ _).trans (by kernel_rfl)
theorem spec_l05Cmp_l1.eq (v0 : List Int) (v1 : List Int) (v2 : Int) : spec_l05Cmp_l1 v0 v1 v2 =
    (at? v0 v2).bind fun y1 =>
    (at? v1 v2).bind fun y2 =>
    bif decide (y1 < y2) then
      some (-1 : Int)
    else
      (at? v0 v2).bind fun y3 =>
      (at? v1 v2).bind fun y4 =>
      bif decide (y3 > y4) then
        some (1 : Int)
      else
        spec_l05Cmp_l0 v0 v1 (IntKind.i64.wrap (v2 + (1 : Int))) := (Lw_eq tysOk (getG_con (spec_l05Cmp.gok _)) _ _).trans (by kernel_rfl)

/-! ### spec_SuffixRows: loop.example/g00688/spec.SuffixRows -/
def spec_SuffixRows.ms : List Mode := [.lend]
def spec_SuffixRows.as : List VSh := [.one (.b (.b (.b (.b (.sl false false 5)))))]
def spec_SuffixRows.rs : RSh := ⟨[.one (.b (.b (.b (.b (.sl true true 3)))))], [none]⟩
noncomputable def spec_SuffixRows.gs (δ : Type) : List (Nat × Callee (GT tab) δ) := [(100, calleeS tab spec_TextOk.ms spec_TextOk.as spec_TextOk.rs spec_TextOk.fn), (175, calleeS tab spec_l05Cmp.ms spec_l05Cmp.as spec_l05Cmp.rs spec_l05Cmp.fn)]
theorem spec_SuffixRows.gok (δ : Type) : AllCon Try.prog tab (spec_SuffixRows.gs δ) := .cons spec_TextOk.con (.cons spec_l05Cmp.con (.nil))
noncomputable def spec_SuffixRows.c : Ctx (GT tab) (KT tab) (ResT tab spec_SuffixRows.rs) := { X := XT tab, ty := tyOf tys, inner := fun _ => true, keep := keepOf 0 spec_SuffixRows.ms, cuts := [], live := liveOf [(5, [0, 3, 4]), (9, [0, 3, 4, 5, 6])], G := getG (spec_SuffixRows.gs _) }
noncomputable def spec_SuffixRows.b : Code := bodyOf Try.f153
noncomputable def spec_SuffixRows (x0 : List Int) : Option (List Int) := callW spec_SuffixRows.c (fiOf (GT tab) Try.f153 spec_SuffixRows.ms) spec_SuffixRows.b (decRes tab spec_SuffixRows.rs) (encArgs tab spec_SuffixRows.as x0)
theorem spec_SuffixRows.fok : FnOk Try.prog 153 Try.f153 spec_SuffixRows.ms spec_SuffixRows.b := ⟨Try.func153, by kernel_rfl, by kernel_rfl⟩
noncomputable def spec_SuffixRows.fn : Args tab spec_SuffixRows.as → Option (ResT tab spec_SuffixRows.rs) := fun x => spec_SuffixRows x
theorem spec_SuffixRows.con {δ : Type} : Con Try.prog (KT tab) 153 (calleeS (β := δ) tab spec_SuffixRows.ms spec_SuffixRows.as spec_SuffixRows.rs spec_SuffixRows.fn) := con_shape (c := spec_SuffixRows.c) mixed tysOk (getG_con (spec_SuffixRows.gok _)) spec_SuffixRows.fok rfl rfl (fun _ => rfl)
noncomputable def spec_SuffixRows_l0 (v0 : List Int) (v1 : Int) (v2 : List Int) : Option (List Int) := Lw spec_SuffixRows.c (finish spec_SuffixRows.c (fiOf (GT tab) Try.f153 spec_SuffixRows.ms) (decRes tab spec_SuffixRows.rs)) ((loops spec_SuffixRows.c.cuts 1000 spec_SuffixRows.b []).getD 0 []) { slots := [.vs false 5 v0, .undef, .undef, .sl 0 0, .int .i64 v1, .undef, .undef, .undef, .undef, .undef, .undef, .undef, .undef, .undef, .undef, .undef, .undef, .undef, .undef, .undef, .undef, .undef, .undef, .undef, .undef, .undef, .undef, .undef, .undef, .undef, .undef, .undef, .undef, .undef, .undef, .undef, .undef, .undef, .undef, .undef, .undef, .undef, .undef, .undef, .undef, .undef, .undef, .undef, .undef, .undef, .undef, .undef, .undef, .undef, .undef, .undef], loc := locOf [.row 0 true 3 v2], nx := 1 }
noncomputable def spec_SuffixRows_l1 (v0 : List Int) (v1 : Int) (v2 : Int) (v3 : Int) (v4 : List Int) : Option (List Int) := Lw spec_SuffixRows.c (finish spec_SuffixRows.c (fiOf (GT tab) Try.f153 spec_SuffixRows.ms) (decRes tab spec_SuffixRows.rs)) ((loops spec_SuffixRows.c.cuts 1000 spec_SuffixRows.b []).getD 1 []) { slots := [.vs false 5 v0, .undef, .undef, .sl 0 0, .int .i64 v1, .int .i64 v2, .int .i64 v3, .undef, .undef, .undef, .undef, .undef, .undef, .undef, .undef, .undef, .undef, .undef, .undef, .undef, .undef, .undef, .undef, .undef, .undef, .undef, .undef, .undef, .undef, .undef, .undef, .undef, .undef, .undef, .undef, .undef, .undef, .undef, .undef, .undef, .undef, .undef, .undef, .undef, .undef, .undef, .undef, .undef, .undef, .undef, .undef, .undef, .undef, .undef, .undef, .undef], loc := locOf [.row 0 true 3 v4], nx := 1 }
theorem spec_SuffixRows.eq (x0 : List Int) : spec_SuffixRows x0 =
    (spec_TextOk x0).bind fun y1 =>
    bif !y1 then
      some ([] : List Int)
    else
      spec_SuffixRows_l0 x0 (x0.length : Int) ([] : List Int) := by kernel_rfl
theorem spec_SuffixRows_l0.eq (v0 : List Int) (v1 : Int) (v2 : List Int) : spec_SuffixRows_l0 v0 v1 v2 =
    bif decide (v1 ≥ (0 : Int)) then
      spec_SuffixRows_l1 v0 v1 (0 : Int) (v2.length : Int) v2
    else
      some v2 := (Lw_eq tysOk (getG_con (spec_SuffixRows.gok _)) _ _).trans (by kernel_rfl)
theorem spec_SuffixRows_l1.eq (v0 : List Int) (v1 : Int) (v2 : Int) (v3 : Int) (v4 : List Int) : spec_SuffixRows_l1 v0 v1 v2 v3 v4 =
    bif decide (v2 < v3) then
      (at? v4 (IntKind.i64.wrap ((IntKind.i64.wrap (v2 + v3)).tdiv (2 : Int)))).bind fun y1 =>
      v4[(IntKind.i64.wrap ((IntKind.i64.wrap (v2 + v3)).tdiv (2 : Int))).toNat]?.bind fun y2 =>
      bif decide (0 ≤ y2 ∧ y2 ≤ ((v0.length : Nat) : Int)) then
        bif decide (0 ≤ v1 ∧ v1 ≤ ((v0.length : Nat) : Int)) then
          (spec_l05Cmp ((v0.take v0.length).drop y2.toNat) ((v0.take v0.length).drop v1.toNat)).bind fun y3 =>
          bif decide (y3 < (0 : Int)) then
            spec_SuffixRows_l1 v0 v1 (IntKind.i64.wrap ((IntKind.i64.wrap ((IntKind.i64.wrap (v2 + v3)).tdiv (2 : Int))) + (1 : Int))) v3 v4
          else
            spec_SuffixRows_l1 v0 v1 v2 (IntKind.i64.wrap ((IntKind.i64.wrap (v2 + v3)).tdiv (2 : Int))) v4
        else
          none
      else
        none
    else
      bif decide (0 ≤ v2 ∧ v2 ≤ ((v4.length : Nat) : Int)) then
        bif decide ((([v1] : List Int).length + ((v4.drop v2.toNat).take (v4.length - v2.toNat)).length) * 8 ≤ 140737488355328) then
          bif decide (0 ≤ v2 ∧ v2 ≤ ((v4.length : Nat) : Int)) then
            bif decide ((([] : List Int).length + ((v4.drop 0).take (v2.toNat - 0)).length) * 8 ≤ 140737488355328) then
              bif decide (((([] : List Int) ++ ((v4.drop 0).take (v2.toNat - 0))).length + (([v1] : List Int) ++ ((v4.drop v2.toNat).take (v4.length - v2.toNat))).length) * 8 ≤ 140737488355328) then
                spec_SuffixRows_l0 v0 (IntKind.i64.wrap (v1 - (1 : Int))) ((([] : List Int) ++ ((v4.drop 0).take (v2.toNat - 0))) ++ (([v1] : List Int) ++ ((v4.drop v2.toNat).take (v4.length - v2.toNat))))
              else
                none
            else
              none
          else
            none
        else
          none
      else
        none := (Lw_eq tysOk (getG_con (spec_SuffixRows.gok _)) _ _).trans (by kernel_rfl)

end Go.Ev.W
