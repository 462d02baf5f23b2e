/- What functions of the program come to. -/
import Derived.Test.YtddhebliggkadaaGreatPcT
import Derived.Test.YtddhebliggkadaaGreatPc1
namespace Go.Ev.W
open Go.Ev Go.Proofs
set_option maxRecDepth 100000
set_option linter.unusedVariables false

/-! ### impl_WaveOf: loop.example/g00688/impl.WaveOf -/
def impl_WaveOf.ms : List Mode := [.lend]
def impl_WaveOf.as : List VSh := [.one (.b (.b (.b (.b (.sl false false 3)))))]
def impl_WaveOf.rs : RSh := ⟨[.agg [.int .i64, .sl true true 3, .sl true true 30], .one (.b (.b (.b (.b (.bool)))))], [none]⟩
noncomputable def impl_WaveOf.gs (δ : Type) : List (Nat × Callee (GT tab) δ) := [(158, calleeS tab impl_bitsOf.ms impl_bitsOf.as impl_bitsOf.rs impl_bitsOf.fn), (188, calleeS tab impl_areAll_int_WaveOf_1.ms impl_areAll_int_WaveOf_1.as impl_areAll_int_WaveOf_1.rs impl_areAll_int_WaveOf_1.fn), (191, calleeS tab slices_Concat_int_int.ms slices_Concat_int_int.as slices_Concat_int_int.rs slices_Concat_int_int.fn)]
theorem impl_WaveOf.gok (δ : Type) : AllCon Tryz.prog tab (impl_WaveOf.gs δ) := .cons impl_bitsOf.con (.cons impl_areAll_int_WaveOf_1.con (.cons slices_Concat_int_int.con (.nil)))
noncomputable def impl_WaveOf.c : Ctx (GT tab) (KT tab) (ResT tab impl_WaveOf.rs) := { X := XT tab, ty := tyOf tys, inner := fun _ => true, keep := keepOf 0 impl_WaveOf.ms, cuts := [3], live := liveOf [(3, [0, 2]), (5, [0, 2, 4, 24]), (9, [2, 4, 5, 6, 7, 8, 24, 27, 28, 29])], G := getG (impl_WaveOf.gs _) }
noncomputable def impl_WaveOf.b : Code := bodyOf Tryz.f157
noncomputable def impl_WaveOf (x0 : List Int) : Option ((Int × (List Int) × (List (Int × (List Int)))) × Bool) := callW impl_WaveOf.c (fiOf (GT tab) Tryz.f157 impl_WaveOf.ms) impl_WaveOf.b (decRes tab impl_WaveOf.rs) (encArgs tab impl_WaveOf.as x0)
theorem impl_WaveOf.fok : FnOk Tryz.prog 157 Tryz.f157 impl_WaveOf.ms impl_WaveOf.b := ⟨Tryz.func157, by kernel_rfl, by kernel_rfl⟩
noncomputable def impl_WaveOf.fn : Args tab impl_WaveOf.as → Option (ResT tab impl_WaveOf.rs) := fun x => impl_WaveOf x
theorem impl_WaveOf.con {δ : Type} : Con Tryz.prog (KT tab) 157 (calleeS (β := δ) tab impl_WaveOf.ms impl_WaveOf.as impl_WaveOf.rs impl_WaveOf.fn) := con_shape (c := impl_WaveOf.c) mixed tysOk (getG_con (impl_WaveOf.gok _)) impl_WaveOf.fok rfl rfl (fun _ => rfl)
noncomputable def impl_WaveOf_l0 (v0 : List Int) (v1 : Int) (v2 : List Int) (v3 : List (Int × (List Int))) : Option ((Int × (List Int) × (List (Int × (List Int)))) × Bool) := Lw impl_WaveOf.c (finish impl_WaveOf.c (fiOf (GT tab) Tryz.f157 impl_WaveOf.ms) (decRes tab impl_WaveOf.rs)) ((loops impl_WaveOf.c.cuts 1000 impl_WaveOf.b []).getD 0 []) { slots := [.vs false 3 v0, .undef, .ptr 0 0, .undef, .undef, .undef, .undef, .undef, .undef, .undef, .undef, .undef, .undef, .undef, .undef, .undef, .undef, .undef, .undef, .undef, .undef, .undef, .undef, .undef, .undef, .undef, .undef, .undef, .undef, .undef, .undef, .undef, .undef, .undef, .undef, .undef, .undef, .undef, .undef, .undef, .undef, .undef, .undef, .undef, .undef, .undef, .undef, .undef, .undef, .undef, .undef, .undef, .undef, .undef, .undef, .undef, .undef, .undef, .undef, .undef, .undef, .undef, .undef, .undef, .undef, .undef, .undef, .undef, .undef, .undef, .undef, .undef, .undef], loc := locOf [.box 27 [.int .i64 v1, .sl 1 0, .sl 2 0], .row 0 true 3 v2, .row 0 true 30 v3], nx := 3 }
noncomputable def impl_WaveOf_l1 (v0 : List Int) (v1 : Int) (v2 : Int) (v3 : List Int) (v4 : List (Int × (List Int))) (v5 : Int) (v6 : List Int) (v7 : List (Int × (List Int))) : Option ((Int × (List Int) × (List (Int × (List Int)))) × Bool) := Lw impl_WaveOf.c (finish impl_WaveOf.c (fiOf (GT tab) Tryz.f157 impl_WaveOf.ms) (decRes tab impl_WaveOf.rs)) ((loops impl_WaveOf.c.cuts 1000 impl_WaveOf.b []).getD 1 []) { slots := [.vs false 3 v0, .undef, .ptr 0 0, .undef, .ptr 3 0, .undef, .undef, .undef, .undef, .undef, .undef, .undef, .undef, .undef, .undef, .undef, .undef, .undef, .undef, .undef, .undef, .undef, .undef, .undef, .int .i64 v1, .undef, .undef, .undef, .undef, .undef, .undef, .undef, .undef, .undef, .undef, .undef, .undef, .undef, .undef, .undef, .undef, .undef, .undef, .undef, .undef, .undef, .undef, .undef, .undef, .undef, .undef, .undef, .undef, .undef, .undef, .undef, .undef, .undef, .undef, .undef, .undef, .undef, .undef, .undef, .undef, .undef, .undef, .undef, .undef, .undef, .undef, .undef, .undef], loc := locOf [.box 27 [.int .i64 v2, .sl 1 0, .sl 2 0], .row 0 true 3 v3, .row 0 true 30 v4, .box 27 [.int .i64 v5, .sl 4 0, .sl 5 0], .row 0 true 3 v6, .row 0 true 30 v7], nx := 6 }
noncomputable def impl_WaveOf_l2 (v0 : Int) (v1 : Int) (v2 : List Int) (v3 : Int) (v4 : Int) (v5 : Int) (v6 : List Int) (v7 : List (Int × (List Int))) (v8 : Int) (v9 : List Int) (v10 : List (Int × (List Int))) (v11 : List Int) (v12 : List Int) (v13 : List Int) : Option ((Int × (List Int) × (List (Int × (List Int)))) × Bool) := Lw impl_WaveOf.c (finish impl_WaveOf.c (fiOf (GT tab) Tryz.f157 impl_WaveOf.ms) (decRes tab impl_WaveOf.rs)) ((loops impl_WaveOf.c.cuts 1000 impl_WaveOf.b []).getD 2 []) { slots := [.undef, .undef, .ptr 0 0, .undef, .ptr 3 0, .int .i64 v0, .sl 6 0, .sl 7 0, .sl 8 0, .undef, .undef, .undef, .undef, .undef, .undef, .undef, .undef, .undef, .undef, .undef, .undef, .undef, .undef, .undef, .int .i64 v1, .undef, .undef, .vs false 3 v2, .int .i64 v3, .int .i64 v4, .undef, .undef, .undef, .undef, .undef, .undef, .undef, .undef, .undef, .undef, .undef, .undef, .undef, .undef, .undef, .undef, .undef, .undef, .undef, .undef, .undef, .undef, .undef, .undef, .undef, .undef, .undef, .undef, .undef, .undef, .undef, .undef, .undef, .undef, .undef, .undef, .undef, .undef, .undef, .undef, .undef, .undef, .undef], loc := locOf [.box 27 [.int .i64 v5, .sl 1 0, .sl 2 0], .row 0 true 3 v6, .row 0 true 30 v7, .box 27 [.int .i64 v8, .sl 4 0, .sl 5 0], .row 0 true 3 v9, .row 0 true 30 v10, .row 0 true 3 v11, .row 0 true 3 v12, .row 0 true 3 v13], nx := 9 }
noncomputable def impl_WaveOf_l3 (v0 : Int) (v1 : List Int) (v2 : Int) (v3 : List Int) (v4 : List (Int × (List Int))) (v5 : Int) (v6 : List Int) (v7 : List (Int × (List Int))) : Option ((Int × (List Int) × (List (Int × (List Int)))) × Bool) := Lw impl_WaveOf.c (finish impl_WaveOf.c (fiOf (GT tab) Tryz.f157 impl_WaveOf.ms) (decRes tab impl_WaveOf.rs)) ((loops impl_WaveOf.c.cuts 1000 impl_WaveOf.b []).getD 1 []) { slots := [.sl 0 0, .undef, .ptr 1 0, .undef, .ptr 4 0, .undef, .undef, .undef, .undef, .undef, .undef, .undef, .undef, .undef, .undef, .undef, .undef, .undef, .undef, .undef, .undef, .undef, .undef, .undef, .int .i64 v0, .undef, .undef, .undef, .undef, .undef, .undef, .undef, .undef, .undef, .undef, .undef, .undef, .undef, .undef, .undef, .undef, .undef, .undef, .undef, .undef, .undef, .undef, .undef, .undef, .undef, .undef, .undef, .undef, .undef, .undef, .undef, .undef, .undef, .undef, .undef, .undef, .undef, .undef, .undef, .undef, .undef, .undef, .undef, .undef, .undef, .undef, .undef, .undef], loc := locOf [.row 0 true 3 v1, .box 27 [.int .i64 v2, .sl 2 0, .sl 3 0], .row 0 true 3 v3, .row 0 true 30 v4, .box 27 [.int .i64 v5, .sl 5 0, .sl 6 0], .row 0 true 3 v6, .row 0 true 30 v7], nx := 7 }
noncomputable def impl_WaveOf_l4 (v0 : Int) (v1 : Int) (v2 : Int) (v3 : Int) (v4 : Int) (v5 : List Int) (v6 : List (Int × (List Int))) (v7 : Int) (v8 : List Int) (v9 : List (Int × (List Int))) (v10 : List Int) (v11 : List Int) (v12 : List Int) (v13 : List Int) : Option ((Int × (List Int) × (List (Int × (List Int)))) × Bool) := Lw impl_WaveOf.c (finish impl_WaveOf.c (fiOf (GT tab) Tryz.f157 impl_WaveOf.ms) (decRes tab impl_WaveOf.rs)) ((loops impl_WaveOf.c.cuts 1000 impl_WaveOf.b []).getD 2 []) { slots := [.undef, .undef, .ptr 0 0, .undef, .ptr 3 0, .int .i64 v0, .sl 6 0, .sl 7 0, .sl 8 0, .undef, .undef, .undef, .undef, .undef, .undef, .undef, .undef, .undef, .undef, .undef, .undef, .undef, .undef, .undef, .int .i64 v1, .undef, .undef, .sl 9 0, .int .i64 v2, .int .i64 v3, .undef, .undef, .undef, .undef, .undef, .undef, .undef, .undef, .undef, .undef, .undef, .undef, .undef, .undef, .undef, .undef, .undef, .undef, .undef, .undef, .undef, .undef, .undef, .undef, .undef, .undef, .undef, .undef, .undef, .undef, .undef, .undef, .undef, .undef, .undef, .undef, .undef, .undef, .undef, .undef, .undef, .undef, .undef], loc := locOf [.box 27 [.int .i64 v4, .sl 1 0, .sl 2 0], .row 0 true 3 v5, .row 0 true 30 v6, .box 27 [.int .i64 v7, .sl 4 0, .sl 5 0], .row 0 true 3 v8, .row 0 true 30 v9, .row 0 true 3 v10, .row 0 true 3 v11, .row 0 true 3 v12, .row 0 true 3 v13], nx := 10 }
theorem impl_WaveOf.eq (x0 : List Int) : impl_WaveOf x0 =
    bif decide ((x0.length : Int) > (1000 : Int)) then
      some (((0 : Int), ([] : List Int), ([] : List (Int × (List Int)))), false)
    else
      (impl_areAll_int_WaveOf_1 x0 ()).bind fun y1 =>
      bif !y1 then
        some (((0 : Int), ([] : List Int), ([] : List (Int × (List Int)))), false)
      else
        impl_WaveOf_l0 x0 (0 : Int) ([] : List Int) ([] : List (Int × (List Int))) := by kernel_rfl
theorem impl_WaveOf_l0.eq (v0 : List Int) (v1 : Int) (v2 : List Int) (v3 : List (Int × (List Int))) : impl_WaveOf_l0 v0 v1 v2 v3 =
    impl_WaveOf_l1 v0 (0 : Int) v1 v2 v3 (v0.length : Int) ([] : List Int) ([] : List (Int × (List Int))) := (Lw_eq tysOk (getG_con (impl_WaveOf.gok _)) _ _).trans (by kernel_rfl)
theorem impl_WaveOf_l1.eq (v0 : List Int) (v1 : Int) (v2 : Int) (v3 : List Int) (v4 : List (Int × (List Int))) (v5 : Int) (v6 : List Int) (v7 : List (Int × (List Int))) : impl_WaveOf_l1 v0 v1 v2 v3 v4 v5 v6 v7 =
    bif decide (v1 < (9 : Int)) then
      impl_WaveOf_l2 v1 v1 v0 (v0.length : Int) (0 : Int) v2 v3 v4 v5 v6 v7 ([] : List Int) ([] : List Int) ([] : List Int)
    else
      some ((v5, v6, v7), true) := (Lw_eq tysOk (getG_con (impl_WaveOf.gok _)) _ _).trans (by kernel_rfl)
theorem impl_WaveOf_l2.eq (v0 : Int) (v1 : Int) (v2 : List Int) (v3 : Int) (v4 : Int) (v5 : Int) (v6 : List Int) (v7 : List (Int × (List Int))) (v8 : Int) (v9 : List Int) (v10 : List (Int × (List Int))) (v11 : List Int) (v12 : List Int) (v13 : List Int) : impl_WaveOf_l2 v0 v1 v2 v3 v4 v5 v6 v7 v8 v9 v10 v11 v12 v13 =
    bif decide (v4 < v3) then
      (at? v2 v4).bind fun y1 =>
      bif decide (IntKind.i64.wrap ((8 : Int) - v0) < (0 : Int)) then
        none
      else
        bif decide ((v13.length + ([IntKind.i64.wrap (((BitVec.ofInt 64 (y1.fdiv (2 ^ (min (IntKind.i64.wrap ((8 : Int) - v0)).toNat 64)))) &&& (BitVec.ofInt 64 (1 : Int))).toNat : Int)] : List Int).length) * 8 ≤ 140737488355328) then
          bif IntKind.i64.wrap (((BitVec.ofInt 64 (y1.fdiv (2 ^ (min (IntKind.i64.wrap ((8 : Int) - v0)).toNat 64)))) &&& (BitVec.ofInt 64 (1 : Int))).toNat : Int) == (0 : Int) then
            bif decide ((v11.length + ([y1] : List Int).length) * 8 ≤ 140737488355328) then
              impl_WaveOf_l2 v0 v1 v2 v3 (IntKind.i64.wrap (v4 + (1 : Int))) v5 v6 v7 v8 v9 v10 (v11 ++ ([y1] : List Int)) v12 (v13 ++ ([IntKind.i64.wrap (((BitVec.ofInt 64 (y1.fdiv (2 ^ (min (IntKind.i64.wrap ((8 : Int) - v0)).toNat 64)))) &&& (BitVec.ofInt 64 (1 : Int))).toNat : Int)] : List Int))
            else
              none
          else
            bif decide ((v12.length + ([y1] : List Int).length) * 8 ≤ 140737488355328) then
              impl_WaveOf_l2 v0 v1 v2 v3 (IntKind.i64.wrap (v4 + (1 : Int))) v5 v6 v7 v8 v9 v10 v11 (v12 ++ ([y1] : List Int)) (v13 ++ ([IntKind.i64.wrap (((BitVec.ofInt 64 (y1.fdiv (2 ^ (min (IntKind.i64.wrap ((8 : Int) - v0)).toNat 64)))) &&& (BitVec.ofInt 64 (1 : Int))).toNat : Int)] : List Int))
            else
              none
        else
          none
    else
      bif decide ((v9.length + ([(v11.length : Int)] : List Int).length) * 8 ≤ 140737488355328) then
        (impl_bitsOf v13).bind fun y2 =>
        bif decide ((v10.length + ([(y2.1, y2.2)] : List (Int × (List Int))).length) * 32 ≤ 140737488355328) then
          (slices_Concat_int_int ([v11, v12] : List (List Int))).bind fun y3 =>
          impl_WaveOf_l3 (IntKind.i64.wrap (v1 + (1 : Int))) y3 v5 v6 v7 v8 (v9 ++ ([(v11.length : Int)] : List Int)) (v10 ++ ([(y2.1, y2.2)] : List (Int × (List Int))))
        else
          none
      else
        none := (Lw_eq tysOk (getG_con (impl_WaveOf.gok _)) _ _).trans (by kernel_rfl)
theorem impl_WaveOf_l3.eq (v0 : Int) (v1 : List Int) (v2 : Int) (v3 : List Int) (v4 : List (Int × (List Int))) (v5 : Int) (v6 : List Int) (v7 : List (Int × (List Int))) : impl_WaveOf_l3 v0 v1 v2 v3 v4 v5 v6 v7 =
    bif decide (v0 < (9 : Int)) then
      impl_WaveOf_l4 v0 v0 (v1.length : Int) (0 : Int) v2 v3 v4 v5 v6 v7 ([] : List Int) ([] : List Int) ([] : List Int) v1
    else
      some ((v5, v6, v7), true) := (Lw_eq tysOk (getG_con (impl_WaveOf.gok _)) _ _).trans (by kernel_rfl)
theorem impl_WaveOf_l4.eq (v0 : Int) (v1 : Int) (v2 : Int) (v3 : Int) (v4 : Int) (v5 : List Int) (v6 : List (Int × (List Int))) (v7 : Int) (v8 : List Int) (v9 : List (Int × (List Int))) (v10 : List Int) (v11 : List Int) (v12 : List Int) (v13 : List Int) : impl_WaveOf_l4 v0 v1 v2 v3 v4 v5 v6 v7 v8 v9 v10 v11 v12 v13 =
    bif decide (v3 < v2) then
      (at? v13 v3).bind fun y1 =>
      v13[v3.toNat]?.bind fun y2 =>
      bif decide (IntKind.i64.wrap ((8 : Int) - v0) < (0 : Int)) then
        none
      else
        bif decide ((v12.length + ([IntKind.i64.wrap (((BitVec.ofInt 64 (y2.fdiv (2 ^ (min (IntKind.i64.wrap ((8 : Int) - v0)).toNat 64)))) &&& (BitVec.ofInt 64 (1 : Int))).toNat : Int)] : List Int).length) * 8 ≤ 140737488355328) then
          bif IntKind.i64.wrap (((BitVec.ofInt 64 (y2.fdiv (2 ^ (min (IntKind.i64.wrap ((8 : Int) - v0)).toNat 64)))) &&& (BitVec.ofInt 64 (1 : Int))).toNat : Int) == (0 : Int) then
            bif decide ((v10.length + ([y2] : List Int).length) * 8 ≤ 140737488355328) then
              impl_WaveOf_l4 v0 v1 v2 (IntKind.i64.wrap (v3 + (1 : Int))) v4 v5 v6 v7 v8 v9 (v10 ++ ([y2] : List Int)) v11 (v12 ++ ([IntKind.i64.wrap (((BitVec.ofInt 64 (y2.fdiv (2 ^ (min (IntKind.i64.wrap ((8 : Int) - v0)).toNat 64)))) &&& (BitVec.ofInt 64 (1 : Int))).toNat : Int)] : List Int)) v13
            else
              none
          else
            bif decide ((v11.length + ([y2] : List Int).length) * 8 ≤ 140737488355328) then
              impl_WaveOf_l4 v0 v1 v2 (IntKind.i64.wrap (v3 + (1 : Int))) v4 v5 v6 v7 v8 v9 v10 (v11 ++ ([y2] : List Int)) (v12 ++ ([IntKind.i64.wrap (((BitVec.ofInt 64 (y2.fdiv (2 ^ (min (IntKind.i64.wrap ((8 : Int) - v0)).toNat 64)))) &&& (BitVec.ofInt 64 (1 : Int))).toNat : Int)] : List Int)) v13
            else
              none
        else
          none
    else
      bif decide ((v8.length + ([(v10.length : Int)] : List Int).length) * 8 ≤ 140737488355328) then
        (impl_bitsOf v12).bind fun y3 =>
        bif decide ((v9.length + ([(y3.1, y3.2)] : List (Int × (List Int))).length) * 32 ≤ 140737488355328) then
          (slices_Concat_int_int ([v10, v11] : List (List Int))).bind fun y4 =>
          impl_WaveOf_l3 (IntKind.i64.wrap (v1 + (1 : Int))) y4 v4 v5 v6 v7 (v8 ++ ([(v10.length : Int)] : List Int)) (v9 ++ ([(y3.1, y3.2)] : List (Int × (List Int))))
        else
          none
      else
        none := (Lw_eq tysOk (getG_con (impl_WaveOf.gok _)) _ _).trans (by kernel_rfl)

/-! ### impl_inverse: loop.example/g00688/impl.inverse -/
def impl_inverse.ms : List Mode := [.lend]
def impl_inverse.as : List VSh := [.one (.b (.b (.b (.b (.sl false false 3)))))]
def impl_inverse.rs : RSh := ⟨[.one (.b (.b (.b (.b (.sl true true 3)))))], [none]⟩
noncomputable def impl_inverse.gs (δ : Type) : List (Nat × Callee (GT tab) δ) := []
theorem impl_inverse.gok (δ : Type) : AllCon Tryz.prog tab (impl_inverse.gs δ) := .nil
noncomputable def impl_inverse.c : Ctx (GT tab) (KT tab) (ResT tab impl_inverse.rs) := { X := XT tab, ty := tyOf tys, inner := fun _ => true, keep := keepOf 0 impl_inverse.ms, cuts := [], live := liveOf [(3, [3, 9, 10, 11])], G := getG (impl_inverse.gs _) }
noncomputable def impl_inverse.b : Code := bodyOf Tryz.f75
noncomputable def impl_inverse (x0 : List Int) : Option (List Int) := callW impl_inverse.c (fiOf (GT tab) Tryz.f75 impl_inverse.ms) impl_inverse.b (decRes tab impl_inverse.rs) (encArgs tab impl_inverse.as x0)
theorem impl_inverse.fok : FnOk Tryz.prog 75 Tryz.f75 impl_inverse.ms impl_inverse.b := ⟨Tryz.func75, by kernel_rfl, by kernel_rfl⟩
noncomputable def impl_inverse.fn : Args tab impl_inverse.as → Option (ResT tab impl_inverse.rs) := fun x => impl_inverse x
theorem impl_inverse.con {δ : Type} : Con Tryz.prog (KT tab) 75 (calleeS (β := δ) tab impl_inverse.ms impl_inverse.as impl_inverse.rs impl_inverse.fn) := con_shape (c := impl_inverse.c) mixed tysOk (getG_con (impl_inverse.gok _)) impl_inverse.fok rfl rfl (fun _ => rfl)
noncomputable def impl_inverse_l0 (v0 : List Int) (v1 : Int) (v2 : Int) (v3 : List Int) : Option (List Int) := Lw impl_inverse.c (finish impl_inverse.c (fiOf (GT tab) Tryz.f75 impl_inverse.ms) (decRes tab impl_inverse.rs)) ((loops impl_inverse.c.cuts 1000 impl_inverse.b []).getD 0 []) { slots := [.undef, .undef, .undef, .sl 0 0, .undef, .undef, .undef, .undef, .undef, .vs false 3 v0, .int .i64 v1, .int .i64 v2, .undef, .undef, .undef, .undef, .undef, .undef, .undef, .undef, .undef, .undef], loc := locOf [.row 0 true 3 v3], nx := 1 }
theorem impl_inverse.eq (x0 : List Int) : impl_inverse x0 =
    bif decide ((0 : Int) ≤ (x0.length : Int)) && decide (((x0.length : Int).toNat) * 8 ≤ 140737488355328) then
      impl_inverse_l0 x0 (x0.length : Int) (0 : Int) (List.replicate ((x0.length : Int).toNat) (0 : Int))
    else
      none := by kernel_rfl
theorem impl_inverse_l0.eq (v0 : List Int) (v1 : Int) (v2 : Int) (v3 : List Int) : impl_inverse_l0 v0 v1 v2 v3 =
    bif decide (v2 < v1) then
      (at? v0 v2).bind fun y1 =>
      (at? v3 y1).bind fun y2 =>
      v3[y1.toNat]?.bind fun y3 =>
      impl_inverse_l0 v0 v1 (IntKind.i64.wrap (v2 + (1 : Int))) (v3.set y1.toNat v2)
    else
      some v3 := (Lw_eq tysOk (getG_con (impl_inverse.gok _)) _ _).trans (by kernel_rfl)

/-! ### bits_Len64: math/bits.Len64 -/
def bits_Len64.ms : List Mode := [.lend]
def bits_Len64.as : List VSh := [.one (.b (.b (.b (.b (.int .u64)))))]
def bits_Len64.rs : RSh := ⟨[.one (.b (.b (.b (.b (.int .i64)))))], [none]⟩
noncomputable def bits_Len64.gs (δ : Type) : List (Nat × Callee (GT tab) δ) := []
theorem bits_Len64.gok (δ : Type) : AllCon Tryz.prog tab (bits_Len64.gs δ) := .nil
noncomputable def bits_Len64.c : Ctx (GT tab) (KT tab) (ResT tab bits_Len64.rs) := { X := XT tab, ty := tyOf tys, inner := fun _ => true, keep := keepOf 0 bits_Len64.ms, cuts := [4, 7], live := liveOf [(4, [0, 2]), (7, [0, 2])], G := getG (bits_Len64.gs _) }
noncomputable def bits_Len64.b : Code := bodyOf Tryz.f211
noncomputable def bits_Len64 (x0 : Int) : Option (Int) := callW bits_Len64.c (fiOf (GT tab) Tryz.f211 bits_Len64.ms) bits_Len64.b (decRes tab bits_Len64.rs) (encArgs tab bits_Len64.as x0)
theorem bits_Len64.fok : FnOk Tryz.prog 211 Tryz.f211 bits_Len64.ms bits_Len64.b := ⟨Tryz.func211, by kernel_rfl, by kernel_rfl⟩
noncomputable def bits_Len64.fn : Args tab bits_Len64.as → Option (ResT tab bits_Len64.rs) := fun x => bits_Len64 x
theorem bits_Len64.con {δ : Type} : Con Tryz.prog (KT tab) 211 (calleeS (β := δ) tab bits_Len64.ms bits_Len64.as bits_Len64.rs bits_Len64.fn) := con_shape (c := bits_Len64.c) mixed tysOk (getG_con (bits_Len64.gok _)) bits_Len64.fok rfl rfl (fun _ => rfl)
noncomputable def bits_Len64_l0 (v0 : Int) (v1 : Int) : Option (Int) := Lw bits_Len64.c (finish bits_Len64.c (fiOf (GT tab) Tryz.f211 bits_Len64.ms) (decRes tab bits_Len64.rs)) ((loops bits_Len64.c.cuts 1000 bits_Len64.b []).getD 0 []) { slots := [.int .u64 v0, .undef, .int .i64 v1, .undef, .undef, .undef, .undef, .undef, .undef, .undef, .undef, .undef, .undef, .undef, .undef, .undef, .undef, .undef, .undef, .undef, .undef, .undef, .undef, .undef, .undef], loc := locOf [], nx := 0 }
noncomputable def bits_Len64_l1 (v0 : Int) (v1 : Int) : Option (Int) := Lw bits_Len64.c (finish bits_Len64.c (fiOf (GT tab) Tryz.f211 bits_Len64.ms) (decRes tab bits_Len64.rs)) ((loops bits_Len64.c.cuts 1000 bits_Len64.b []).getD 1 []) { slots := [.int .u64 v0, .undef, .int .i64 v1, .undef, .undef, .undef, .undef, .undef, .undef, .undef, .undef, .undef, .undef, .undef, .undef, .undef, .undef, .undef, .undef, .undef, .undef, .undef, .undef, .undef, .undef], loc := locOf [], nx := 0 }
theorem bits_Len64.eq (x0 : Int) : bits_Len64 x0 =
    bif decide (x0 ≥ (4294967296 : Int)) then
      bits_Len64_l0 (x0.fdiv (2 ^ 32)) (32 : Int)
    else
      bits_Len64_l0 x0 (0 : Int) := by kernel_rfl
theorem bits_Len64_l0.eq (v0 : Int) (v1 : Int) : bits_Len64_l0 v0 v1 =
    bif decide (v0 ≥ (65536 : Int)) then
      bits_Len64_l1 (v0.fdiv (2 ^ 16)) (IntKind.i64.wrap (v1 + (16 : Int)))
    else
      bits_Len64_l1 v0 v1 := (Lw_eq tysOk (getG_con (bits_Len64.gok _)) _ _).trans (by kernel_rfl)
theorem bits_Len64_l1.eq (v0 : Int) (v1 : Int) : bits_Len64_l1 v0 v1 =
    bif decide (v0 ≥ (256 : Int)) then
      (at? ((⟨(List.toArray ([0, 1, 2, 2, 3, 3, 3, 3, 4, 4, 4, 4, 4, 4, 4, 4, 5, 5, 5, 5, 5, 5, 5, 5, 5, 5, 5, 5, 5, 5, 5, 5, 6, 6, 6, 6, 6, 6, 6, 6, 6, 6, 6, 6, 6, 6, 6, 6, 6, 6, 6, 6, 6, 6, 6, 6, 6, 6, 6, 6, 6, 6, 6, 6, 7, 7, 7, 7, 7, 7, 7, 7, 7, 7, 7, 7, 7, 7, 7, 7, 7, 7, 7, 7, 7, 7, 7, 7, 7, 7, 7, 7, 7, 7, 7, 7, 7, 7, 7, 7, 7, 7, 7, 7, 7, 7, 7, 7, 7, 7, 7, 7, 7, 7, 7, 7, 7, 7, 7, 7, 7, 7, 7, 7, 7, 7, 7, 7] ++ [8, 8, 8, 8, 8, 8, 8, 8, 8, 8, 8, 8, 8, 8, 8, 8, 8, 8, 8, 8, 8, 8, 8, 8, 8, 8, 8, 8, 8, 8, 8, 8, 8, 8, 8, 8, 8, 8, 8, 8, 8, 8, 8, 8, 8, 8, 8, 8, 8, 8, 8, 8, 8, 8, 8, 8, 8, 8, 8, 8, 8, 8, 8, 8, 8, 8, 8, 8, 8, 8, 8, 8, 8, 8, 8, 8, 8, 8, 8, 8, 8, 8, 8, 8, 8, 8, 8, 8, 8, 8, 8, 8, 8, 8, 8, 8, 8, 8, 8, 8, 8, 8, 8, 8, 8, 8, 8, 8, 8, 8, 8, 8, 8, 8, 8, 8, 8, 8, 8, 8, 8, 8, 8, 8, 8, 8, 8, 8]))⟩ : ByteArray).data.toList) (IntKind.u8.wrap (v0.fdiv (2 ^ 8)))).bind fun y1 =>
      some (IntKind.i64.wrap ((IntKind.i64.wrap (v1 + (8 : Int))) + (IntKind.i64.wrap (y1.toNat : Int))))
    else
      (at? ((⟨(List.toArray ([0, 1, 2, 2, 3, 3, 3, 3, 4, 4, 4, 4, 4, 4, 4, 4, 5, 5, 5, 5, 5, 5, 5, 5, 5, 5, 5, 5, 5, 5, 5, 5, 6, 6, 6, 6, 6, 6, 6, 6, 6, 6, 6, 6, 6, 6, 6, 6, 6, 6, 6, 6, 6, 6, 6, 6, 6, 6, 6, 6, 6, 6, 6, 6, 7, 7, 7, 7, 7, 7, 7, 7, 7, 7, 7, 7, 7, 7, 7, 7, 7, 7, 7, 7, 7, 7, 7, 7, 7, 7, 7, 7, 7, 7, 7, 7, 7, 7, 7, 7, 7, 7, 7, 7, 7, 7, 7, 7, 7, 7, 7, 7, 7, 7, 7, 7, 7, 7, 7, 7, 7, 7, 7, 7, 7, 7, 7, 7] ++ [8, 8, 8, 8, 8, 8, 8, 8, 8, 8, 8, 8, 8, 8, 8, 8, 8, 8, 8, 8, 8, 8, 8, 8, 8, 8, 8, 8, 8, 8, 8, 8, 8, 8, 8, 8, 8, 8, 8, 8, 8, 8, 8, 8, 8, 8, 8, 8, 8, 8, 8, 8, 8, 8, 8, 8, 8, 8, 8, 8, 8, 8, 8, 8, 8, 8, 8, 8, 8, 8, 8, 8, 8, 8, 8, 8, 8, 8, 8, 8, 8, 8, 8, 8, 8, 8, 8, 8, 8, 8, 8, 8, 8, 8, 8, 8, 8, 8, 8, 8, 8, 8, 8, 8, 8, 8, 8, 8, 8, 8, 8, 8, 8, 8, 8, 8, 8, 8, 8, 8, 8, 8, 8, 8, 8, 8, 8, 8]))⟩ : ByteArray).data.toList) (IntKind.u8.wrap v0)).bind fun y2 =>
      some (IntKind.i64.wrap (v1 + (IntKind.i64.wrap (y2.toNat : Int)))) := (Lw_eq tysOk (getG_con (bits_Len64.gok _)) _ _).trans (by kernel_rfl)

/-! ### bits_Len: math/bits.Len -/
def bits_Len.ms : List Mode := [.lend]
def bits_Len.as : List VSh := [.one (.b (.b (.b (.b (.int .u64)))))]
def bits_Len.rs : RSh := ⟨[.one (.b (.b (.b (.b (.int .i64)))))], [none]⟩
noncomputable def bits_Len.gs (δ : Type) : List (Nat × Callee (GT tab) δ) := [(211, calleeS tab bits_Len64.ms bits_Len64.as bits_Len64.rs bits_Len64.fn)]
theorem bits_Len.gok (δ : Type) : AllCon Tryz.prog tab (bits_Len.gs δ) := .cons bits_Len64.con (.nil)
noncomputable def bits_Len.c : Ctx (GT tab) (KT tab) (ResT tab bits_Len.rs) := { X := XT tab, ty := tyOf tys, inner := fun _ => true, keep := keepOf 0 bits_Len.ms, cuts := [], live := liveOf [], G := getG (bits_Len.gs _) }
noncomputable def bits_Len.b : Code := bodyOf Tryz.f184
noncomputable def bits_Len (x0 : Int) : Option (Int) := callW bits_Len.c (fiOf (GT tab) Tryz.f184 bits_Len.ms) bits_Len.b (decRes tab bits_Len.rs) (encArgs tab bits_Len.as x0)
theorem bits_Len.fok : FnOk Tryz.prog 184 Tryz.f184 bits_Len.ms bits_Len.b := ⟨Tryz.func184, by kernel_rfl, by kernel_rfl⟩
noncomputable def bits_Len.fn : Args tab bits_Len.as → Option (ResT tab bits_Len.rs) := fun x => bits_Len x
theorem bits_Len.con {δ : Type} : Con Tryz.prog (KT tab) 184 (calleeS (β := δ) tab bits_Len.ms bits_Len.as bits_Len.rs bits_Len.fn) := con_shape (c := bits_Len.c) mixed tysOk (getG_con (bits_Len.gok _)) bits_Len.fok rfl rfl (fun _ => rfl)
theorem bits_Len.eq (x0 : Int) : bits_Len x0 =
    (bits_Len64 x0).bind fun y1 =>
    some y1 := by kernel_rfl

/-! ### impl_WidthOf: loop.example/g00688/impl.WidthOf -/
def impl_WidthOf.ms : List Mode := [.lend]
def impl_WidthOf.as : List VSh := [.one (.b (.b (.b (.b (.int .i64)))))]
def impl_WidthOf.rs : RSh := ⟨[.one (.b (.b (.b (.b (.int .i64)))))], [none]⟩
noncomputable def impl_WidthOf.gs (δ : Type) : List (Nat × Callee (GT tab) δ) := [(184, calleeS tab bits_Len.ms bits_Len.as bits_Len.rs bits_Len.fn)]
theorem impl_WidthOf.gok (δ : Type) : AllCon Tryz.prog tab (impl_WidthOf.gs δ) := .cons bits_Len.con (.nil)
noncomputable def impl_WidthOf.c : Ctx (GT tab) (KT tab) (ResT tab impl_WidthOf.rs) := { X := XT tab, ty := tyOf tys, inner := fun _ => true, keep := keepOf 0 impl_WidthOf.ms, cuts := [], live := liveOf [], G := getG (impl_WidthOf.gs _) }
noncomputable def impl_WidthOf.b : Code := bodyOf Tryz.f160
noncomputable def impl_WidthOf (x0 : Int) : Option (Int) := callW impl_WidthOf.c (fiOf (GT tab) Tryz.f160 impl_WidthOf.ms) impl_WidthOf.b (decRes tab impl_WidthOf.rs) (encArgs tab impl_WidthOf.as x0)
theorem impl_WidthOf.fok : FnOk Tryz.prog 160 Tryz.f160 impl_WidthOf.ms impl_WidthOf.b := ⟨Tryz.func160, by kernel_rfl, by kernel_rfl⟩
noncomputable def impl_WidthOf.fn : Args tab impl_WidthOf.as → Option (ResT tab impl_WidthOf.rs) := fun x => impl_WidthOf x
theorem impl_WidthOf.con {δ : Type} : Con Tryz.prog (KT tab) 160 (calleeS (β := δ) tab impl_WidthOf.ms impl_WidthOf.as impl_WidthOf.rs impl_WidthOf.fn) := con_shape (c := impl_WidthOf.c) mixed tysOk (getG_con (impl_WidthOf.gok _)) impl_WidthOf.fok rfl rfl (fun _ => rfl)
theorem impl_WidthOf.eq (x0 : Int) : impl_WidthOf x0 =
    bif decide (x0 < (0 : Int)) then
      some (-1 : Int)
    else
      (bits_Len (IntKind.u64.wrap x0)).bind fun y1 =>
      some y1 := by kernel_rfl

/-! ### impl_PackOf_1: loop.example/g00688/impl.PackOf$1 -/
def impl_PackOf_1.ms : List Mode := [.lend, .lend]
def impl_PackOf_1.as : List VSh := [.one (.b (.b (.b (.b (.int .i64))))), .one (.ptr false 0 [.b (.b (.b (.int .i64)))])]
def impl_PackOf_1.rs : RSh := ⟨[.one (.b (.b (.b (.b (.bool)))))], [none, none]⟩
noncomputable def impl_PackOf_1.gs (δ : Type) : List (Nat × Callee (GT tab) δ) := [(63, calleeS tab impl_within.ms impl_within.as impl_within.rs impl_within.fn)]
theorem impl_PackOf_1.gok (δ : Type) : AllCon Tryz.prog tab (impl_PackOf_1.gs δ) := .cons impl_within.con (.nil)
noncomputable def impl_PackOf_1.c : Ctx (GT tab) (KT tab) (ResT tab impl_PackOf_1.rs) := { X := XT tab, ty := tyOf tys, inner := fun _ => true, keep := keepOf 0 impl_PackOf_1.ms, cuts := [], live := liveOf [], G := getG (impl_PackOf_1.gs _) }
noncomputable def impl_PackOf_1.b : Code := bodyOf Tryz.f192
noncomputable def impl_PackOf_1 (x0 : Int) (x1 : Int) : Option (Bool) := callW impl_PackOf_1.c (fiOf (GT tab) Tryz.f192 impl_PackOf_1.ms) impl_PackOf_1.b (decRes tab impl_PackOf_1.rs) (encArgs tab impl_PackOf_1.as (x0, x1))
theorem impl_PackOf_1.fok : FnOk Tryz.prog 192 Tryz.f192 impl_PackOf_1.ms impl_PackOf_1.b := ⟨Tryz.func192, by kernel_rfl, by kernel_rfl⟩
noncomputable def impl_PackOf_1.fn : Args tab impl_PackOf_1.as → Option (ResT tab impl_PackOf_1.rs) := fun x => impl_PackOf_1 x.1 x.2
theorem impl_PackOf_1.con {δ : Type} : Con Tryz.prog (KT tab) 192 (calleeS (β := δ) tab impl_PackOf_1.ms impl_PackOf_1.as impl_PackOf_1.rs impl_PackOf_1.fn) := con_shape (c := impl_PackOf_1.c) mixed tysOk (getG_con (impl_PackOf_1.gok _)) impl_PackOf_1.fok rfl rfl (fun _ => rfl)
theorem impl_PackOf_1.eq (x0 : Int) (x1 : Int) : impl_PackOf_1 x0 x1 =
    bif decide (x1 < (0 : Int)) then
      none
    else
      (impl_within x0 (0 : Int) (IntKind.i64.wrap ((IntKind.i64.wrap ((1 : Int) * 2 ^ (min x1.toNat 64))) - (1 : Int)))).bind fun y1 =>
      some y1 := by kernel_rfl

/-! ### impl_areAll_int_1_PackOf_1: loop.example/g00688/impl.areAll[int]$1 -/
def impl_areAll_int_1_PackOf_1.ms : List Mode := [.lend, .lend]
def impl_areAll_int_1_PackOf_1.as : List VSh := [.one (.b (.b (.b (.b (.int .i64))))), .one (.ptr false 0 [.fn 192 [.ptr false 0 [.b (.int .i64)]]])]
def impl_areAll_int_1_PackOf_1.rs : RSh := ⟨[.one (.b (.b (.b (.b (.bool)))))], [none, none]⟩
noncomputable def impl_areAll_int_1_PackOf_1.gs (δ : Type) : List (Nat × Callee (GT tab) δ) := [(192, calleeS tab impl_PackOf_1.ms impl_PackOf_1.as impl_PackOf_1.rs impl_PackOf_1.fn)]
theorem impl_areAll_int_1_PackOf_1.gok (δ : Type) : AllCon Tryz.prog tab (impl_areAll_int_1_PackOf_1.gs δ) := .cons impl_PackOf_1.con (.nil)
noncomputable def impl_areAll_int_1_PackOf_1.c : Ctx (GT tab) (KT tab) (ResT tab impl_areAll_int_1_PackOf_1.rs) := { X := XT tab, ty := tyOf tys, inner := fun _ => true, keep := keepOf 0 impl_areAll_int_1_PackOf_1.ms, cuts := [], live := liveOf [], G := getG (impl_areAll_int_1_PackOf_1.gs _) }
noncomputable def impl_areAll_int_1_PackOf_1.b : Code := bodyOf Tryz.f213
noncomputable def impl_areAll_int_1_PackOf_1 (x0 : Int) (x1 : Int) : Option (Bool) := callW impl_areAll_int_1_PackOf_1.c (fiOf (GT tab) Tryz.f213 impl_areAll_int_1_PackOf_1.ms) impl_areAll_int_1_PackOf_1.b (decRes tab impl_areAll_int_1_PackOf_1.rs) (encArgs tab impl_areAll_int_1_PackOf_1.as (x0, x1))
theorem impl_areAll_int_1_PackOf_1.fok : FnOk Tryz.prog 213 Tryz.f213 impl_areAll_int_1_PackOf_1.ms impl_areAll_int_1_PackOf_1.b := ⟨Tryz.func213, by kernel_rfl, by kernel_rfl⟩
noncomputable def impl_areAll_int_1_PackOf_1.fn : Args tab impl_areAll_int_1_PackOf_1.as → Option (ResT tab impl_areAll_int_1_PackOf_1.rs) := fun x => impl_areAll_int_1_PackOf_1 x.1 x.2
theorem impl_areAll_int_1_PackOf_1.con {δ : Type} : Con Tryz.prog (KT tab) 213 (calleeS (β := δ) tab impl_areAll_int_1_PackOf_1.ms impl_areAll_int_1_PackOf_1.as impl_areAll_int_1_PackOf_1.rs impl_areAll_int_1_PackOf_1.fn) := con_shape (c := impl_areAll_int_1_PackOf_1.c) mixed tysOk (getG_con (impl_areAll_int_1_PackOf_1.gok _)) impl_areAll_int_1_PackOf_1.fok rfl rfl (fun _ => rfl)
theorem impl_areAll_int_1_PackOf_1.eq (x0 : Int) (x1 : Int) : impl_areAll_int_1_PackOf_1 x0 x1 =
    (impl_PackOf_1 x0 x1).bind fun y1 =>
    some (!y1) := by kernel_rfl

/-! ### slices_IndexFunc_int_int_areAll_int_1_PackOf_1: slices.IndexFunc[[]int,int] -/
def slices_IndexFunc_int_int_areAll_int_1_PackOf_1.ms : List Mode := [.lend, .lend]
def slices_IndexFunc_int_int_areAll_int_1_PackOf_1.as : List VSh := [.one (.b (.b (.b (.b (.sl false false 3))))), .one (.fn 213 [.ptr false 0 [.fn 192 [.ptr false 0 [.int .i64]]]])]
def slices_IndexFunc_int_int_areAll_int_1_PackOf_1.rs : RSh := ⟨[.one (.b (.b (.b (.b (.int .i64)))))], [none, none]⟩
noncomputable def slices_IndexFunc_int_int_areAll_int_1_PackOf_1.gs (δ : Type) : List (Nat × Callee (GT tab) δ) := [(213, calleeS tab impl_areAll_int_1_PackOf_1.ms impl_areAll_int_1_PackOf_1.as impl_areAll_int_1_PackOf_1.rs impl_areAll_int_1_PackOf_1.fn)]
theorem slices_IndexFunc_int_int_areAll_int_1_PackOf_1.gok (δ : Type) : AllCon Tryz.prog tab (slices_IndexFunc_int_int_areAll_int_1_PackOf_1.gs δ) := .cons impl_areAll_int_1_PackOf_1.con (.nil)
noncomputable def slices_IndexFunc_int_int_areAll_int_1_PackOf_1.c : Ctx (GT tab) (KT tab) (ResT tab slices_IndexFunc_int_int_areAll_int_1_PackOf_1.rs) := { X := XT tab, ty := tyOf tys, inner := fun _ => true, keep := keepOf 0 slices_IndexFunc_int_int_areAll_int_1_PackOf_1.ms, cuts := [], live := liveOf [(2, [0, 1, 7, 8])], G := getG (slices_IndexFunc_int_int_areAll_int_1_PackOf_1.gs _) }
noncomputable def slices_IndexFunc_int_int_areAll_int_1_PackOf_1.b : Code := bodyOf Tryz.f221
noncomputable def slices_IndexFunc_int_int_areAll_int_1_PackOf_1 (x0 : List Int) (x1 : Int) : Option (Int) := callW slices_IndexFunc_int_int_areAll_int_1_PackOf_1.c (fiOf (GT tab) Tryz.f221 slices_IndexFunc_int_int_areAll_int_1_PackOf_1.ms) slices_IndexFunc_int_int_areAll_int_1_PackOf_1.b (decRes tab slices_IndexFunc_int_int_areAll_int_1_PackOf_1.rs) (encArgs tab slices_IndexFunc_int_int_areAll_int_1_PackOf_1.as (x0, x1))
theorem slices_IndexFunc_int_int_areAll_int_1_PackOf_1.fok : FnOk Tryz.prog 221 Tryz.f221 slices_IndexFunc_int_int_areAll_int_1_PackOf_1.ms slices_IndexFunc_int_int_areAll_int_1_PackOf_1.b := ⟨Tryz.func221, by kernel_rfl, by kernel_rfl⟩
noncomputable def slices_IndexFunc_int_int_areAll_int_1_PackOf_1.fn : Args tab slices_IndexFunc_int_int_areAll_int_1_PackOf_1.as → Option (ResT tab slices_IndexFunc_int_int_areAll_int_1_PackOf_1.rs) := fun x => slices_IndexFunc_int_int_areAll_int_1_PackOf_1 x.1 x.2
theorem slices_IndexFunc_int_int_areAll_int_1_PackOf_1.con {δ : Type} : Con Tryz.prog (KT tab) 221 (calleeS (β := δ) tab slices_IndexFunc_int_int_areAll_int_1_PackOf_1.ms slices_IndexFunc_int_int_areAll_int_1_PackOf_1.as slices_IndexFunc_int_int_areAll_int_1_PackOf_1.rs slices_IndexFunc_int_int_areAll_int_1_PackOf_1.fn) := con_shape (c := slices_IndexFunc_int_int_areAll_int_1_PackOf_1.c) mixed tysOk (getG_con (slices_IndexFunc_int_int_areAll_int_1_PackOf_1.gok _)) slices_IndexFunc_int_int_areAll_int_1_PackOf_1.fok rfl rfl (fun _ => rfl)
noncomputable def slices_IndexFunc_int_int_areAll_int_1_PackOf_1_l0 (v0 : List Int) (v1 : Int) (v2 : Int) (v3 : Int) : Option (Int) := Lw slices_IndexFunc_int_int_areAll_int_1_PackOf_1.c (finish slices_IndexFunc_int_int_areAll_int_1_PackOf_1.c (fiOf (GT tab) Tryz.f221 slices_IndexFunc_int_int_areAll_int_1_PackOf_1.ms) (decRes tab slices_IndexFunc_int_int_areAll_int_1_PackOf_1.rs)) ((loops slices_IndexFunc_int_int_areAll_int_1_PackOf_1.c.cuts 1000 slices_IndexFunc_int_int_areAll_int_1_PackOf_1.b []).getD 0 []) { slots := [.vs false 3 v0, .fn 213 [.vp [.fn 192 [.ptr false 0 [.int .i64 v1]]]], .undef, .undef, .undef, .undef, .undef, .int .i64 v2, .int .i64 v3, .undef, .undef, .undef, .undef, .undef, .undef, .undef, .undef, .undef, .undef], loc := locOf [], nx := 0 }
theorem slices_IndexFunc_int_int_areAll_int_1_PackOf_1.eq (x0 : List Int) (x1 : Int) : slices_IndexFunc_int_int_areAll_int_1_PackOf_1 x0 x1 =
    slices_IndexFunc_int_int_areAll_int_1_PackOf_1_l0 x0 x1 (x0.length : Int) (0 : Int) := by kernel_rfl
theorem slices_IndexFunc_int_int_areAll_int_1_PackOf_1_l0.eq (v0 : List Int) (v1 : Int) (v2 : Int) (v3 : Int) : slices_IndexFunc_int_int_areAll_int_1_PackOf_1_l0 v0 v1 v2 v3 =
    bif decide (v3 < v2) then
      (at? v0 v3).bind fun y1 =>
      (impl_areAll_int_1_PackOf_1 y1 v1).bind fun y2 =>
      bif y2 then
        some v3
      else
        slices_IndexFunc_int_int_areAll_int_1_PackOf_1_l0 v0 v1 v2 (IntKind.i64.wrap (v3 + (1 : Int)))
    else
      some (-1 : Int) := (Lw_eq tysOk (getG_con (slices_IndexFunc_int_int_areAll_int_1_PackOf_1.gok _)) _ _).trans (by kernel_rfl)

/-! ### slices_ContainsFunc_int_int_areAll_int_1_PackOf_1: slices.ContainsFunc[[]int,int] -/
def slices_ContainsFunc_int_int_areAll_int_1_PackOf_1.ms : List Mode := [.lend, .lend]
def slices_ContainsFunc_int_int_areAll_int_1_PackOf_1.as : List VSh := [.one (.b (.b (.b (.b (.sl false false 3))))), .one (.fn 213 [.ptr false 86 [.fn 192 [.ptr false 0 [.int .i64]]]])]
def slices_ContainsFunc_int_int_areAll_int_1_PackOf_1.rs : RSh := ⟨[.one (.b (.b (.b (.b (.bool)))))], [none, none]⟩
noncomputable def slices_ContainsFunc_int_int_areAll_int_1_PackOf_1.gs (δ : Type) : List (Nat × Callee (GT tab) δ) := [(221, calleeS tab slices_IndexFunc_int_int_areAll_int_1_PackOf_1.ms slices_IndexFunc_int_int_areAll_int_1_PackOf_1.as slices_IndexFunc_int_int_areAll_int_1_PackOf_1.rs slices_IndexFunc_int_int_areAll_int_1_PackOf_1.fn)]
theorem slices_ContainsFunc_int_int_areAll_int_1_PackOf_1.gok (δ : Type) : AllCon Tryz.prog tab (slices_ContainsFunc_int_int_areAll_int_1_PackOf_1.gs δ) := .cons slices_IndexFunc_int_int_areAll_int_1_PackOf_1.con (.nil)
noncomputable def slices_ContainsFunc_int_int_areAll_int_1_PackOf_1.c : Ctx (GT tab) (KT tab) (ResT tab slices_ContainsFunc_int_int_areAll_int_1_PackOf_1.rs) := { X := XT tab, ty := tyOf tys, inner := fun _ => true, keep := keepOf 0 slices_ContainsFunc_int_int_areAll_int_1_PackOf_1.ms, cuts := [], live := liveOf [], G := getG (slices_ContainsFunc_int_int_areAll_int_1_PackOf_1.gs _) }
noncomputable def slices_ContainsFunc_int_int_areAll_int_1_PackOf_1.b : Code := bodyOf Tryz.f212
noncomputable def slices_ContainsFunc_int_int_areAll_int_1_PackOf_1 (x0 : List Int) (x1 : Int) : Option (Bool) := callW slices_ContainsFunc_int_int_areAll_int_1_PackOf_1.c (fiOf (GT tab) Tryz.f212 slices_ContainsFunc_int_int_areAll_int_1_PackOf_1.ms) slices_ContainsFunc_int_int_areAll_int_1_PackOf_1.b (decRes tab slices_ContainsFunc_int_int_areAll_int_1_PackOf_1.rs) (encArgs tab slices_ContainsFunc_int_int_areAll_int_1_PackOf_1.as (x0, x1))
theorem slices_ContainsFunc_int_int_areAll_int_1_PackOf_1.fok : FnOk Tryz.prog 212 Tryz.f212 slices_ContainsFunc_int_int_areAll_int_1_PackOf_1.ms slices_ContainsFunc_int_int_areAll_int_1_PackOf_1.b := ⟨Tryz.func212, by kernel_rfl, by kernel_rfl⟩
noncomputable def slices_ContainsFunc_int_int_areAll_int_1_PackOf_1.fn : Args tab slices_ContainsFunc_int_int_areAll_int_1_PackOf_1.as → Option (ResT tab slices_ContainsFunc_int_int_areAll_int_1_PackOf_1.rs) := fun x => slices_ContainsFunc_int_int_areAll_int_1_PackOf_1 x.1 x.2
theorem slices_ContainsFunc_int_int_areAll_int_1_PackOf_1.con {δ : Type} : Con Tryz.prog (KT tab) 212 (calleeS (β := δ) tab slices_ContainsFunc_int_int_areAll_int_1_PackOf_1.ms slices_ContainsFunc_int_int_areAll_int_1_PackOf_1.as slices_ContainsFunc_int_int_areAll_int_1_PackOf_1.rs slices_ContainsFunc_int_int_areAll_int_1_PackOf_1.fn) := con_shape (c := slices_ContainsFunc_int_int_areAll_int_1_PackOf_1.c) mixed tysOk (getG_con (slices_ContainsFunc_int_int_areAll_int_1_PackOf_1.gok _)) slices_ContainsFunc_int_int_areAll_int_1_PackOf_1.fok rfl rfl (fun _ => rfl)
theorem slices_ContainsFunc_int_int_areAll_int_1_PackOf_1.eq (x0 : List Int) (x1 : Int) : slices_ContainsFunc_int_int_areAll_int_1_PackOf_1 x0 x1 =
    (slices_IndexFunc_int_int_areAll_int_1_PackOf_1 x0 x1).bind fun y1 =>
    some (decide (y1 ≥ (0 : Int))) := by kernel_rfl

/-! ### impl_areAll_int_PackOf_1: loop.example/g00688/impl.areAll[int] -/
def impl_areAll_int_PackOf_1.ms : List Mode := [.lend, .lend]
def impl_areAll_int_PackOf_1.as : List VSh := [.one (.b (.b (.b (.b (.sl false false 3))))), .one (.fn 192 [.ptr false 3 [.b (.b (.int .i64))]])]
def impl_areAll_int_PackOf_1.rs : RSh := ⟨[.one (.b (.b (.b (.b (.bool)))))], [none, none]⟩
noncomputable def impl_areAll_int_PackOf_1.gs (δ : Type) : List (Nat × Callee (GT tab) δ) := [(212, calleeS tab slices_ContainsFunc_int_int_areAll_int_1_PackOf_1.ms slices_ContainsFunc_int_int_areAll_int_1_PackOf_1.as slices_ContainsFunc_int_int_areAll_int_1_PackOf_1.rs slices_ContainsFunc_int_int_areAll_int_1_PackOf_1.fn)]
theorem impl_areAll_int_PackOf_1.gok (δ : Type) : AllCon Tryz.prog tab (impl_areAll_int_PackOf_1.gs δ) := .cons slices_ContainsFunc_int_int_areAll_int_1_PackOf_1.con (.nil)
noncomputable def impl_areAll_int_PackOf_1.c : Ctx (GT tab) (KT tab) (ResT tab impl_areAll_int_PackOf_1.rs) := { X := XT tab, ty := tyOf tys, inner := fun _ => true, keep := keepOf 0 impl_areAll_int_PackOf_1.ms, cuts := [], live := liveOf [], G := getG (impl_areAll_int_PackOf_1.gs _) }
noncomputable def impl_areAll_int_PackOf_1.b : Code := bodyOf Tryz.f188
noncomputable def impl_areAll_int_PackOf_1 (x0 : List Int) (x1 : Int) : Option (Bool) := callW impl_areAll_int_PackOf_1.c (fiOf (GT tab) Tryz.f188 impl_areAll_int_PackOf_1.ms) impl_areAll_int_PackOf_1.b (decRes tab impl_areAll_int_PackOf_1.rs) (encArgs tab impl_areAll_int_PackOf_1.as (x0, x1))
theorem impl_areAll_int_PackOf_1.fok : FnOk Tryz.prog 188 Tryz.f188 impl_areAll_int_PackOf_1.ms impl_areAll_int_PackOf_1.b := ⟨Tryz.func188, by kernel_rfl, by kernel_rfl⟩
noncomputable def impl_areAll_int_PackOf_1.fn : Args tab impl_areAll_int_PackOf_1.as → Option (ResT tab impl_areAll_int_PackOf_1.rs) := fun x => impl_areAll_int_PackOf_1 x.1 x.2
theorem impl_areAll_int_PackOf_1.con {δ : Type} : Con Tryz.prog (KT tab) 188 (calleeS (β := δ) tab impl_areAll_int_PackOf_1.ms impl_areAll_int_PackOf_1.as impl_areAll_int_PackOf_1.rs impl_areAll_int_PackOf_1.fn) := con_shape (c := impl_areAll_int_PackOf_1.c) mixed tysOk (getG_con (impl_areAll_int_PackOf_1.gok _)) impl_areAll_int_PackOf_1.fok rfl rfl (fun _ => rfl)
theorem impl_areAll_int_PackOf_1.eq (x0 : List Int) (x1 : Int) : impl_areAll_int_PackOf_1 x0 x1 =
    (slices_ContainsFunc_int_int_areAll_int_1_PackOf_1 x0 x1).bind fun y1 =>
    some (!y1) := by kernel_rfl

/-! ### impl_digits: loop.example/g00688/impl.digits -/
def impl_digits.ms : List Mode := [.lend, .lend]
def impl_digits.as : List VSh := [.one (.b (.b (.b (.b (.int .i64))))), .one (.b (.b (.b (.b (.int .i64)))))]
def impl_digits.rs : RSh := ⟨[.one (.b (.b (.b (.b (.sl true true 3)))))], [none, none]⟩
noncomputable def impl_digits.gs (δ : Type) : List (Nat × Callee (GT tab) δ) := []
theorem impl_digits.gok (δ : Type) : AllCon Tryz.prog tab (impl_digits.gs δ) := .nil
noncomputable def impl_digits.c : Ctx (GT tab) (KT tab) (ResT tab impl_digits.rs) := { X := XT tab, ty := tyOf tys, inner := fun _ => true, keep := keepOf 0 impl_digits.ms, cuts := [], live := liveOf [(3, [0, 5, 6, 7])], G := getG (impl_digits.gs _) }
noncomputable def impl_digits.b : Code := bodyOf Tryz.f193
noncomputable def impl_digits (x0 : Int) (x1 : Int) : Option (List Int) := callW impl_digits.c (fiOf (GT tab) Tryz.f193 impl_digits.ms) impl_digits.b (decRes tab impl_digits.rs) (encArgs tab impl_digits.as (x0, x1))
theorem impl_digits.fok : FnOk Tryz.prog 193 Tryz.f193 impl_digits.ms impl_digits.b := ⟨Tryz.func193, by kernel_rfl, by kernel_rfl⟩
noncomputable def impl_digits.fn : Args tab impl_digits.as → Option (ResT tab impl_digits.rs) := fun x => impl_digits x.1 x.2
theorem impl_digits.con {δ : Type} : Con Tryz.prog (KT tab) 193 (calleeS (β := δ) tab impl_digits.ms impl_digits.as impl_digits.rs impl_digits.fn) := con_shape (c := impl_digits.c) mixed tysOk (getG_con (impl_digits.gok _)) impl_digits.fok rfl rfl (fun _ => rfl)
noncomputable def impl_digits_l0 (v0 : Int) (v1 : Int) (v2 : Int) (v3 : List Int) : Option (List Int) := Lw impl_digits.c (finish impl_digits.c (fiOf (GT tab) Tryz.f193 impl_digits.ms) (decRes tab impl_digits.rs)) ((loops impl_digits.c.cuts 1000 impl_digits.b []).getD 0 []) { slots := [.int .i64 v0, .undef, .undef, .undef, .undef, .sl 0 0, .int .i64 v1, .int .i64 v2, .undef, .undef, .undef, .undef, .undef, .undef, .undef, .undef, .undef, .undef], loc := locOf [.row 0 true 3 v3], nx := 1 }
theorem impl_digits.eq (x0 : Int) (x1 : Int) : impl_digits x0 x1 =
    impl_digits_l0 x0 x1 (0 : Int) ([] : List Int) := by kernel_rfl
theorem impl_digits_l0.eq (v0 : Int) (v1 : Int) (v2 : Int) (v3 : List Int) : impl_digits_l0 v0 v1 v2 v3 =
    bif decide (v2 < v1) then
      bif decide ((v3.length + ([IntKind.i64.wrap (((BitVec.ofInt 64 v0) &&& (BitVec.ofInt 64 (1 : Int))).toNat : Int)] : List Int).length) * 8 ≤ 140737488355328) then
        impl_digits_l0 (v0.fdiv (2 ^ 1)) v1 (IntKind.i64.wrap (v2 + (1 : Int))) (v3 ++ ([IntKind.i64.wrap (((BitVec.ofInt 64 v0) &&& (BitVec.ofInt 64 (1 : Int))).toNat : Int)] : List Int))
      else
        none
    else
      some v3 := (Lw_eq tysOk (getG_con (impl_digits.gok _)) _ _).trans (by kernel_rfl)

/-! ### impl_PackOf: loop.example/g00688/impl.PackOf -/
def impl_PackOf.ms : List Mode := [.lend, .lend]
def impl_PackOf.as : List VSh := [.one (.b (.b (.b (.b (.sl false false 3))))), .one (.b (.b (.b (.b (.int .i64)))))]
def impl_PackOf.rs : RSh := ⟨[.agg [.int .i64, .int .i64, .int .i64, .sl true true 126], .one (.b (.b (.b (.b (.bool)))))], [none, none]⟩
noncomputable def impl_PackOf.gs (δ : Type) : List (Nat × Callee (GT tab) δ) := [(63, calleeS tab impl_within.ms impl_within.as impl_within.rs impl_within.fn), (158, calleeS tab impl_bitsOf.ms impl_bitsOf.as impl_bitsOf.rs impl_bitsOf.fn), (188, calleeS tab impl_areAll_int_PackOf_1.ms impl_areAll_int_PackOf_1.as impl_areAll_int_PackOf_1.rs impl_areAll_int_PackOf_1.fn), (193, calleeS tab impl_digits.ms impl_digits.as impl_digits.rs impl_digits.fn)]
theorem impl_PackOf.gok (δ : Type) : AllCon Tryz.prog tab (impl_PackOf.gs δ) := .cons impl_within.con (.cons impl_bitsOf.con (.cons impl_areAll_int_PackOf_1.con (.cons impl_digits.con (.nil))))
noncomputable def impl_PackOf.c : Ctx (GT tab) (KT tab) (ResT tab impl_PackOf.rs) := { X := XT tab, ty := tyOf tys, inner := fun _ => true, keep := keepOf 0 impl_PackOf.ms, cuts := [3], live := liveOf [(3, [0, 3, 4]), (5, [0, 3, 4, 6, 31, 32, 33])], G := getG (impl_PackOf.gs _) }
noncomputable def impl_PackOf.b : Code := bodyOf Tryz.f159
noncomputable def impl_PackOf (x0 : List Int) (x1 : Int) : Option ((Int × Int × Int × (List Int)) × Bool) := callW impl_PackOf.c (fiOf (GT tab) Tryz.f159 impl_PackOf.ms) impl_PackOf.b (decRes tab impl_PackOf.rs) (encArgs tab impl_PackOf.as (x0, x1))
theorem impl_PackOf.fok : FnOk Tryz.prog 159 Tryz.f159 impl_PackOf.ms impl_PackOf.b := ⟨Tryz.func159, by kernel_rfl, by kernel_rfl⟩
noncomputable def impl_PackOf.fn : Args tab impl_PackOf.as → Option (ResT tab impl_PackOf.rs) := fun x => impl_PackOf x.1 x.2
theorem impl_PackOf.con {δ : Type} : Con Tryz.prog (KT tab) 159 (calleeS (β := δ) tab impl_PackOf.ms impl_PackOf.as impl_PackOf.rs impl_PackOf.fn) := con_shape (c := impl_PackOf.c) mixed tysOk (getG_con (impl_PackOf.gok _)) impl_PackOf.fok rfl rfl (fun _ => rfl)
noncomputable def impl_PackOf_l0 (v0 : List Int) (v1 : Int) (v2 : Int) (v3 : Int) (v4 : Int) (v5 : List Int) : Option ((Int × Int × Int × (List Int)) × Bool) := Lw impl_PackOf.c (finish impl_PackOf.c (fiOf (GT tab) Tryz.f159 impl_PackOf.ms) (decRes tab impl_PackOf.rs)) ((loops impl_PackOf.c.cuts 1000 impl_PackOf.b []).getD 0 []) { slots := [.vs false 3 v0, .undef, .undef, .ptr 0 0, .ptr 1 0, .undef, .undef, .undef, .undef, .undef, .undef, .undef, .undef, .undef, .undef, .undef, .undef, .undef, .undef, .undef, .undef, .undef, .undef, .undef, .undef, .undef, .undef, .undef, .undef, .undef, .undef, .undef, .undef, .undef, .undef, .undef, .undef, .undef, .undef, .undef, .undef, .undef, .undef, .undef, .undef, .undef, .undef, .undef, .undef], loc := locOf [.box 3 [.int .i64 v1], .box 32 [.int .i64 v2, .int .i64 v3, .int .i64 v4, .sl 2 0], .row 0 true 126 v5], nx := 3 }
noncomputable def impl_PackOf_l1 (v0 : List Int) (v1 : List Int) (v2 : Int) (v3 : Int) (v4 : Int) (v5 : Int) (v6 : Int) (v7 : Int) (v8 : List Int) (v9 : List Int) : Option ((Int × Int × Int × (List Int)) × Bool) := Lw impl_PackOf.c (finish impl_PackOf.c (fiOf (GT tab) Tryz.f159 impl_PackOf.ms) (decRes tab impl_PackOf.rs)) ((loops impl_PackOf.c.cuts 1000 impl_PackOf.b []).getD 1 []) { slots := [.vs false 3 v0, .undef, .undef, .ptr 0 0, .ptr 1 0, .undef, .sl 3 0, .undef, .undef, .undef, .undef, .undef, .undef, .undef, .undef, .undef, .undef, .undef, .undef, .undef, .undef, .undef, .undef, .undef, .undef, .undef, .undef, .undef, .undef, .undef, .undef, .vs false 3 v1, .int .i64 v2, .int .i64 v3, .undef, .undef, .undef, .undef, .undef, .undef, .undef, .undef, .undef, .undef, .undef, .undef, .undef, .undef, .undef], loc := locOf [.box 3 [.int .i64 v4], .box 32 [.int .i64 v5, .int .i64 v6, .int .i64 v7, .sl 2 0], .row 0 true 126 v8, .row 0 true 3 v9], nx := 4 }
theorem impl_PackOf.eq (x0 : List Int) (x1 : Int) : impl_PackOf x0 x1 =
    (impl_within x1 (0 : Int) (32 : Int)).bind fun y1 =>
    bif !y1 then
      some (((0 : Int), (0 : Int), (0 : Int), ([] : List Int)), false)
    else
      bif decide ((x0.length : Int) > (5000 : Int)) then
        some (((0 : Int), (0 : Int), (0 : Int), ([] : List Int)), false)
      else
        bif decide (IntKind.i64.wrap ((x0.length : Int) * x1) > (5000 : Int)) then
          some (((0 : Int), (0 : Int), (0 : Int), ([] : List Int)), false)
        else
          (impl_areAll_int_PackOf_1 x0 x1).bind fun y2 =>
          bif !y2 then
            some (((0 : Int), (0 : Int), (0 : Int), ([] : List Int)), false)
          else
            impl_PackOf_l0 x0 x1 (0 : Int) (0 : Int) (0 : Int) ([] : List Int) := by kernel_rfl
theorem impl_PackOf_l0.eq (v0 : List Int) (v1 : Int) (v2 : Int) (v3 : Int) (v4 : Int) (v5 : List Int) : impl_PackOf_l0 v0 v1 v2 v3 v4 v5 =
    impl_PackOf_l1 v0 v0 (v0.length : Int) (0 : Int) v1 v2 v3 v4 v5 ([] : List Int) := (Lw_eq tysOk (getG_con (impl_PackOf.gok _)) _ _).trans (by kernel_rfl)
theorem impl_PackOf_l1.eq (v0 : List Int) (v1 : List Int) (v2 : Int) (v3 : Int) (v4 : Int) (v5 : Int) (v6 : Int) (v7 : Int) (v8 : List Int) (v9 : List Int) : impl_PackOf_l1 v0 v1 v2 v3 v4 v5 v6 v7 v8 v9 =
    bif decide (v3 < v2) then
      (at? v1 v3).bind fun y1 =>
      (impl_digits y1 v4).bind fun y2 =>
      bif decide ((v9.length + y2.length) * 8 ≤ 140737488355328) then
        impl_PackOf_l1 v0 v1 v2 (IntKind.i64.wrap (v3 + (1 : Int))) v4 v5 v6 v7 v8 (v9 ++ y2)
      else
        none
    else
      (impl_bitsOf v9).bind fun y3 =>
      some ((v4, (v0.length : Int), y3.1, y3.2), true) := (Lw_eq tysOk (getG_con (impl_PackOf.gok _)) _ _).trans (by kernel_rfl)

/-! ### impl_fmOf: loop.example/g00688/impl.fmOf -/
def impl_fmOf.ms : List Mode := [.lend, .lend]
def impl_fmOf.as : List VSh := [.one (.b (.b (.b (.b (.sl false false 5))))), .one (.b (.b (.b (.b (.int .i64)))))]
def impl_fmOf.rs : RSh := ⟨[.agg [.int .i64, .int .i64, .int .i64, .sl true true 3, .sl true true 30, .sl true true 3, .int .i64, .sl true true 126, .int .i64, .int .i64, .int .i64, .sl true true 126, .int .i64, .int .i64, .int .i64, .sl true true 126]], [none, none]⟩
noncomputable def impl_fmOf.gs (δ : Type) : List (Nat × Callee (GT tab) δ) := [(64, calleeS tab impl_suffixRows.ms impl_suffixRows.as impl_suffixRows.rs impl_suffixRows.fn), (69, calleeS tab impl_bwtOf.ms impl_bwtOf.as impl_bwtOf.rs impl_bwtOf.fn), (75, calleeS tab impl_inverse.ms impl_inverse.as impl_inverse.rs impl_inverse.fn), (134, calleeS tab impl_counts.ms impl_counts.as impl_counts.rs impl_counts.fn), (157, calleeS tab impl_WaveOf.ms impl_WaveOf.as impl_WaveOf.rs impl_WaveOf.fn), (158, calleeS tab impl_bitsOf.ms impl_bitsOf.as impl_bitsOf.rs impl_bitsOf.fn), (159, calleeS tab impl_PackOf.ms impl_PackOf.as impl_PackOf.rs impl_PackOf.fn), (160, calleeS tab impl_WidthOf.ms impl_WidthOf.as impl_WidthOf.rs impl_WidthOf.fn)]
theorem impl_fmOf.gok (δ : Type) : AllCon Tryz.prog tab (impl_fmOf.gs δ) := .cons impl_suffixRows.con (.cons impl_bwtOf.con (.cons impl_inverse.con (.cons impl_counts.con (.cons impl_WaveOf.con (.cons impl_bitsOf.con (.cons impl_PackOf.con (.cons impl_WidthOf.con (.nil))))))))
noncomputable def impl_fmOf.c : Ctx (GT tab) (KT tab) (ResT tab impl_fmOf.rs) := { X := XT tab, ty := tyOf tys, inner := fun _ => true, keep := keepOf 0 impl_fmOf.ms, cuts := [], live := liveOf [(7, [0, 1, 4, 5, 7, 8, 9, 10, 31, 32, 33]), (15, [0, 1, 4, 7, 8, 9, 10, 13, 14])], G := getG (impl_fmOf.gs _) }
noncomputable def impl_fmOf.b : Code := bodyOf Tryz.f105
noncomputable def impl_fmOf (x0 : List Int) (x1 : Int) : Option (Int × Int × Int × (List Int) × (List (Int × (List Int))) × (List Int) × Int × (List Int) × Int × Int × Int × (List Int) × Int × Int × Int × (List Int)) := callW impl_fmOf.c (fiOf (GT tab) Tryz.f105 impl_fmOf.ms) impl_fmOf.b (decRes tab impl_fmOf.rs) (encArgs tab impl_fmOf.as (x0, x1))
theorem impl_fmOf.fok : FnOk Tryz.prog 105 Tryz.f105 impl_fmOf.ms impl_fmOf.b := ⟨Tryz.func105, by kernel_rfl, by kernel_rfl⟩
noncomputable def impl_fmOf.fn : Args tab impl_fmOf.as → Option (ResT tab impl_fmOf.rs) := fun x => impl_fmOf x.1 x.2
theorem impl_fmOf.con {δ : Type} : Con Tryz.prog (KT tab) 105 (calleeS (β := δ) tab impl_fmOf.ms impl_fmOf.as impl_fmOf.rs impl_fmOf.fn) := con_shape (c := impl_fmOf.c) mixed tysOk (getG_con (impl_fmOf.gok _)) impl_fmOf.fok rfl rfl (fun _ => rfl)
noncomputable def impl_fmOf_l0 (v0 : List Int) (v1 : Int) (v2 : Int) (v3 : Int) (v4 : Int) (v5 : Int) (v6 : Int) (v7 : Int) (v8 : Int) (v9 : Int) (v10 : Int) (v11 : Int) (v12 : Int) (v13 : Int) (v14 : List Int) (v15 : List (Int × (List Int))) (v16 : List Int) (v17 : List Int) (v18 : List Int) (v19 : List Int) (v20 : List Int) (v21 : Int) (v22 : Int) (v23 : Int) (v24 : Int) (v25 : Int) (v26 : Int) (v27 : Int) (v28 : Int) (v29 : Int) (v30 : Int) (v31 : List Int) (v32 : List (Int × (List Int))) (v33 : List Int) (v34 : List Int) (v35 : List Int) (v36 : List Int) (v37 : List Int) (v38 : List Int) (v39 : List Int) : Option (Int × Int × Int × (List Int) × (List (Int × (List Int))) × (List Int) × Int × (List Int) × Int × Int × Int × (List Int) × Int × Int × Int × (List Int)) := Lw impl_fmOf.c (finish impl_fmOf.c (fiOf (GT tab) Tryz.f105 impl_fmOf.ms) (decRes tab impl_fmOf.rs)) ((loops impl_fmOf.c.cuts 1000 impl_fmOf.b []).getD 0 []) { slots := [.vs false 5 v0, .int .i64 v1, .undef, .undef, .ptr 0 0, .sl 7 0, .undef, .ptr 8 0, .sl 15 0, .sl 16 0, .sl 17 0, .undef, .undef, .undef, .undef, .undef, .undef, .undef, .undef, .undef, .undef, .undef, .undef, .undef, .undef, .undef, .undef, .undef, .undef, .undef, .undef, .sl 7 0, .int .i64 v2, .int .i64 v3, .undef, .undef, .undef, .undef, .undef, .undef, .undef, .undef, .undef, .undef, .undef, .undef, .undef, .undef, .undef, .undef, .undef, .undef, .undef, .undef, .undef, .undef, .undef, .undef, .undef, .undef, .undef, .undef, .undef, .undef, .undef, .undef, .undef, .undef, .undef, .undef, .undef, .undef, .undef, .undef, .undef, .undef, .undef, .undef, .undef, .undef, .undef, .undef, .undef, .undef, .undef, .undef, .undef, .undef, .undef, .undef, .undef, .undef], loc := locOf [.box 34 [.int .i64 v4, .int .i64 v5, .int .i64 v6, .sl 1 0, .sl 2 0, .sl 3 0, .int .i64 v7, .sl 4 0, .int .i64 v8, .int .i64 v9, .int .i64 v10, .sl 5 0, .int .i64 v11, .int .i64 v12, .int .i64 v13, .sl 6 0], .row 0 true 3 v14, .row 0 true 30 v15, .row 0 true 3 v16, .row 0 true 126 v17, .row 0 true 126 v18, .row 0 true 126 v19, .row 0 true 3 v20, .box 34 [.int .i64 v21, .int .i64 v22, .int .i64 v23, .sl 9 0, .sl 10 0, .sl 11 0, .int .i64 v24, .sl 12 0, .int .i64 v25, .int .i64 v26, .int .i64 v27, .sl 13 0, .int .i64 v28, .int .i64 v29, .int .i64 v30, .sl 14 0], .row 0 true 3 v31, .row 0 true 30 v32, .row 0 true 3 v33, .row 0 true 126 v34, .row 0 true 126 v35, .row 0 true 126 v36, .row 0 true 3 v37, .row 0 true 3 v38, .row 0 true 3 v39], nx := 18 }
noncomputable def impl_fmOf_l1 (v0 : List Int) (v1 : Int) (v2 : Int) (v3 : Int) (v4 : Int) (v5 : Int) (v6 : Int) (v7 : Int) (v8 : Int) (v9 : Int) (v10 : Int) (v11 : Int) (v12 : Int) (v13 : List Int) (v14 : List (Int × (List Int))) (v15 : List Int) (v16 : List Int) (v17 : List Int) (v18 : List Int) (v19 : Int) (v20 : Int) (v21 : Int) (v22 : Int) (v23 : Int) (v24 : Int) (v25 : Int) (v26 : Int) (v27 : Int) (v28 : Int) (v29 : List Int) (v30 : List (Int × (List Int))) (v31 : List Int) (v32 : List Int) (v33 : List Int) (v34 : List Int) (v35 : List Int) (v36 : List Int) (v37 : List Int) (v38 : List Int) : Option (Int × Int × Int × (List Int) × (List (Int × (List Int))) × (List Int) × Int × (List Int) × Int × Int × Int × (List Int) × Int × Int × Int × (List Int)) := Lw impl_fmOf.c (finish impl_fmOf.c (fiOf (GT tab) Tryz.f105 impl_fmOf.ms) (decRes tab impl_fmOf.rs)) ((loops impl_fmOf.c.cuts 1000 impl_fmOf.b []).getD 1 []) { slots := [.vs false 5 v0, .int .i64 v1, .undef, .undef, .ptr 0 0, .undef, .undef, .ptr 7 0, .sl 14 0, .sl 15 0, .sl 16 0, .undef, .undef, .sl 17 0, .int .i64 v2, .undef, .undef, .undef, .undef, .undef, .undef, .undef, .undef, .undef, .undef, .undef, .undef, .undef, .undef, .undef, .undef, .undef, .undef, .undef, .undef, .undef, .undef, .undef, .undef, .undef, .undef, .undef, .undef, .undef, .undef, .undef, .undef, .undef, .undef, .undef, .undef, .undef, .undef, .undef, .undef, .undef, .undef, .undef, .undef, .undef, .undef, .undef, .undef, .undef, .undef, .undef, .undef, .undef, .undef, .undef, .undef, .undef, .undef, .undef, .undef, .undef, .undef, .undef, .undef, .undef, .undef, .undef, .undef, .undef, .undef, .undef, .undef, .undef, .undef, .undef, .undef, .undef], loc := locOf [.box 34 [.int .i64 v3, .int .i64 v4, .int .i64 v5, .sl 1 0, .sl 2 0, .sl 3 0, .int .i64 v6, .sl 4 0, .int .i64 v7, .int .i64 v8, .int .i64 v9, .sl 5 0, .int .i64 v10, .int .i64 v11, .int .i64 v12, .sl 6 0], .row 0 true 3 v13, .row 0 true 30 v14, .row 0 true 3 v15, .row 0 true 126 v16, .row 0 true 126 v17, .row 0 true 126 v18, .box 34 [.int .i64 v19, .int .i64 v20, .int .i64 v21, .sl 8 0, .sl 9 0, .sl 10 0, .int .i64 v22, .sl 11 0, .int .i64 v23, .int .i64 v24, .int .i64 v25, .sl 12 0, .int .i64 v26, .int .i64 v27, .int .i64 v28, .sl 13 0], .row 0 true 3 v29, .row 0 true 30 v30, .row 0 true 3 v31, .row 0 true 126 v32, .row 0 true 126 v33, .row 0 true 126 v34, .row 0 true 3 v35, .row 0 true 3 v36, .row 0 true 3 v37, .row 0 true 3 v38], nx := 18 }
theorem impl_fmOf.eq (x0 : List Int) (x1 : Int) : impl_fmOf x0 x1 =
    (impl_suffixRows x0).bind fun y1 =>
    (impl_bwtOf x0).bind fun y2 =>
    (impl_counts y2).bind fun y3 =>
    (impl_WaveOf y2).bind fun y4 =>
    impl_fmOf_l0 x0 x1 (y1.length : Int) (0 : Int) (0 : Int) (0 : Int) (0 : Int) (0 : Int) (0 : Int) (0 : Int) (0 : Int) (0 : Int) (0 : Int) (0 : Int) ([] : List Int) ([] : List (Int × (List Int))) ([] : List Int) ([] : List Int) ([] : List Int) ([] : List Int) y1 (x0.length : Int) x1 y4.1.1 (0 : Int) (0 : Int) (0 : Int) (0 : Int) (0 : Int) (0 : Int) (0 : Int) y4.1.2.1 y4.1.2.2 y3 ([] : List Int) ([] : List Int) ([] : List Int) ([] : List Int) ([] : List Int) ([] : List Int) := by kernel_rfl
theorem impl_fmOf_l0.eq (v0 : List Int) (v1 : Int) (v2 : Int) (v3 : Int) (v4 : Int) (v5 : Int) (v6 : Int) (v7 : Int) (v8 : Int) (v9 : Int) (v10 : Int) (v11 : Int) (v12 : Int) (v13 : Int) (v14 : List Int) (v15 : List (Int × (List Int))) (v16 : List Int) (v17 : List Int) (v18 : List Int) (v19 : List Int) (v20 : List Int) (v21 : Int) (v22 : Int) (v23 : Int) (v24 : Int) (v25 : Int) (v26 : Int) (v27 : Int) (v28 : Int) (v29 : Int) (v30 : Int) (v31 : List Int) (v32 : List (Int × (List Int))) (v33 : List Int) (v34 : List Int) (v35 : List Int) (v36 : List Int) (v37 : List Int) (v38 : List Int) (v39 : List Int) : impl_fmOf_l0 v0 v1 v2 v3 v4 v5 v6 v7 v8 v9 v10 v11 v12 v13 v14 v15 v16 v17 v18 v19 v20 v21 v22 v23 v24 v25 v26 v27 v28 v29 v30 v31 v32 v33 v34 v35 v36 v37 v38 v39 =
    bif decide (v3 < v2) then
      (at? v20 v3).bind fun y1 =>
      v20[v3.toNat]?.bind fun y2 =>
      bif decide (v1 = (0 : Int)) then
        none
      else
        bif y2.tmod v1 == (0 : Int) then
          bif decide ((v37.length + ([(1 : Int)] : List Int).length) * 8 ≤ 140737488355328) then
            bif decide (v1 = (0 : Int)) then
              none
            else
              bif decide ((v38.length + ([IntKind.i64.wrap (y2.tdiv v1)] : List Int).length) * 8 ≤ 140737488355328) then
                impl_fmOf_l0 v0 v1 v2 (IntKind.i64.wrap (v3 + (1 : Int))) v4 v5 v6 v7 v8 v9 v10 v11 v12 v13 v14 v15 v16 v17 v18 v19 v20 v21 v22 v23 v24 v25 v26 v27 v28 v29 v30 v31 v32 v33 v34 v35 v36 (v37 ++ ([(1 : Int)] : List Int)) (v38 ++ ([IntKind.i64.wrap (y2.tdiv v1)] : List Int)) v39
              else
                none
          else
            none
        else
          bif decide ((v37.length + ([(0 : Int)] : List Int).length) * 8 ≤ 140737488355328) then
            impl_fmOf_l0 v0 v1 v2 (IntKind.i64.wrap (v3 + (1 : Int))) v4 v5 v6 v7 v8 v9 v10 v11 v12 v13 v14 v15 v16 v17 v18 v19 v20 v21 v22 v23 v24 v25 v26 v27 v28 v29 v30 v31 v32 v33 v34 v35 v36 (v37 ++ ([(0 : Int)] : List Int)) v38 v39
          else
            none
    else
      (impl_inverse v20).bind fun y3 =>
      impl_fmOf_l1 v0 v1 (0 : Int) v4 v5 v6 v7 v8 v9 v10 v11 v12 v13 v14 v15 v16 v17 v18 v19 v21 v22 v23 v24 v25 v26 v27 v28 v29 v30 v31 v32 v33 v34 v35 v36 v37 v38 v39 y3 := (Lw_eq tysOk (getG_con (impl_fmOf.gok _)) _ _).trans (by kernel_rfl)
theorem impl_fmOf_l1.eq (v0 : List Int) (v1 : Int) (v2 : Int) (v3 : Int) (v4 : Int) (v5 : Int) (v6 : Int) (v7 : Int) (v8 : Int) (v9 : Int) (v10 : Int) (v11 : Int) (v12 : Int) (v13 : List Int) (v14 : List (Int × (List Int))) (v15 : List Int) (v16 : List Int) (v17 : List Int) (v18 : List Int) (v19 : Int) (v20 : Int) (v21 : Int) (v22 : Int) (v23 : Int) (v24 : Int) (v25 : Int) (v26 : Int) (v27 : Int) (v28 : Int) (v29 : List Int) (v30 : List (Int × (List Int))) (v31 : List Int) (v32 : List Int) (v33 : List Int) (v34 : List Int) (v35 : List Int) (v36 : List Int) (v37 : List Int) (v38 : List Int) : impl_fmOf_l1 v0 v1 v2 v3 v4 v5 v6 v7 v8 v9 v10 v11 v12 v13 v14 v15 v16 v17 v18 v19 v20 v21 v22 v23 v24 v25 v26 v27 v28 v29 v30 v31 v32 v33 v34 v35 v36 v37 v38 =
    bif decide (v2 ≤ (v0.length : Int)) then
      (at? v38 v2).bind fun y1 =>
      v38[v2.toNat]?.bind fun y2 =>
      bif decide ((v37.length + ([y2] : List Int).length) * 8 ≤ 140737488355328) then
        impl_fmOf_l1 v0 v1 (IntKind.i64.wrap (v2 + v1)) v3 v4 v5 v6 v7 v8 v9 v10 v11 v12 v13 v14 v15 v16 v17 v18 v19 v20 v21 v22 v23 v24 v25 v26 v27 v28 v29 v30 v31 v32 v33 v34 v35 v36 (v37 ++ ([y2] : List Int)) v38
      else
        none
    else
      (impl_bitsOf v35).bind fun y3 =>
      (impl_WidthOf (v0.length : Int)).bind fun y4 =>
      (impl_PackOf v36 y4).bind fun y5 =>
      (impl_WidthOf (v0.length : Int)).bind fun y6 =>
      (impl_PackOf v37 y6).bind fun y7 =>
      some (v19, v20, v21, v29, v30, v31, y3.1, y3.2, y5.1.1, y5.1.2.1, y5.1.2.2.1, y5.1.2.2.2, y7.1.1, y7.1.2.1, y7.1.2.2.1, y7.1.2.2.2) := (Lw_eq tysOk (getG_con (impl_fmOf.gok _)) _ _).trans (by kernel_rfl)

/-! ### slices_Equal_uint64_uint64: slices.Equal[[]uint64,uint64] -/
def slices_Equal_uint64_uint64.ms : List Mode := [.lend, .lend]
def slices_Equal_uint64_uint64.as : List VSh := [.one (.b (.b (.b (.b (.sl false false 126))))), .one (.b (.b (.b (.b (.sl false false 126)))))]
def slices_Equal_uint64_uint64.rs : RSh := ⟨[.one (.b (.b (.b (.b (.bool)))))], [none, none]⟩
noncomputable def slices_Equal_uint64_uint64.gs (δ : Type) : List (Nat × Callee (GT tab) δ) := []
theorem slices_Equal_uint64_uint64.gok (δ : Type) : AllCon Tryz.prog tab (slices_Equal_uint64_uint64.gs δ) := .nil
noncomputable def slices_Equal_uint64_uint64.c : Ctx (GT tab) (KT tab) (ResT tab slices_Equal_uint64_uint64.rs) := { X := XT tab, ty := tyOf tys, inner := fun _ => true, keep := keepOf 0 slices_Equal_uint64_uint64.ms, cuts := [], live := liveOf [(4, [0, 1, 12, 13])], G := getG (slices_Equal_uint64_uint64.gs _) }
noncomputable def slices_Equal_uint64_uint64.b : Code := bodyOf Tryz.f201
noncomputable def slices_Equal_uint64_uint64 (x0 : List Int) (x1 : List Int) : Option (Bool) := callW slices_Equal_uint64_uint64.c (fiOf (GT tab) Tryz.f201 slices_Equal_uint64_uint64.ms) slices_Equal_uint64_uint64.b (decRes tab slices_Equal_uint64_uint64.rs) (encArgs tab slices_Equal_uint64_uint64.as (x0, x1))
theorem slices_Equal_uint64_uint64.fok : FnOk Tryz.prog 201 Tryz.f201 slices_Equal_uint64_uint64.ms slices_Equal_uint64_uint64.b := ⟨Tryz.func201, by kernel_rfl, by kernel_rfl⟩
noncomputable def slices_Equal_uint64_uint64.fn : Args tab slices_Equal_uint64_uint64.as → Option (ResT tab slices_Equal_uint64_uint64.rs) := fun x => slices_Equal_uint64_uint64 x.1 x.2
theorem slices_Equal_uint64_uint64.con {δ : Type} : Con Tryz.prog (KT tab) 201 (calleeS (β := δ) tab slices_Equal_uint64_uint64.ms slices_Equal_uint64_uint64.as slices_Equal_uint64_uint64.rs slices_Equal_uint64_uint64.fn) := con_shape (c := slices_Equal_uint64_uint64.c) mixed tysOk (getG_con (slices_Equal_uint64_uint64.gok _)) slices_Equal_uint64_uint64.fok rfl rfl (fun _ => rfl)
noncomputable def slices_Equal_uint64_uint64_l0 (v0 : List Int) (v1 : List Int) (v2 : Int) (v3 : Int) : Option (Bool) := Lw slices_Equal_uint64_uint64.c (finish slices_Equal_uint64_uint64.c (fiOf (GT tab) Tryz.f201 slices_Equal_uint64_uint64.ms) (decRes tab slices_Equal_uint64_uint64.rs)) ((loops slices_Equal_uint64_uint64.c.cuts 1000 slices_Equal_uint64_uint64.b []).getD 0 []) { slots := [.vs false 126 v0, .vs false 126 v1, .undef, .undef, .undef, .undef, .undef, .undef, .undef, .undef, .undef, .undef, .int .i64 v2, .int .i64 v3, .undef, .undef, .undef, .undef, .undef, .undef, .undef, .undef, .undef, .undef, .undef, .undef], loc := locOf [], nx := 0 }
theorem slices_Equal_uint64_uint64.eq (x0 : List Int) (x1 : List Int) : slices_Equal_uint64_uint64 x0 x1 =
    bif (x0.length : Int) != (x1.length : Int) then
      some false
    else
      slices_Equal_uint64_uint64_l0 x0 x1 (x0.length : Int) (0 : Int) := by kernel_rfl
theorem slices_Equal_uint64_uint64_l0.eq (v0 : List Int) (v1 : List Int) (v2 : Int) (v3 : Int) : slices_Equal_uint64_uint64_l0 v0 v1 v2 v3 =
    bif decide (v3 < v2) then
      (at? v0 v3).bind fun y1 =>
      (at? v1 v3).bind fun y2 =>
      bif y1 != y2 then
        some false
      else
        slices_Equal_uint64_uint64_l0 v0 v1 v2 (IntKind.i64.wrap (v3 + (1 : Int)))
    else
      some true := (Lw_eq tysOk (getG_con (slices_Equal_uint64_uint64.gok _)) _ _).trans (by kernel_rfl)

/-! ### impl_sameBits: loop.example/g00688/impl.sameBits -/
def impl_sameBits.ms : List Mode := [.lend, .lend]
def impl_sameBits.as : List VSh := [.agg [.int .i64, .sl false false 126], .agg [.int .i64, .sl false false 126]]
def impl_sameBits.rs : RSh := ⟨[.one (.b (.b (.b (.b (.bool)))))], [none, none]⟩
noncomputable def impl_sameBits.gs (δ : Type) : List (Nat × Callee (GT tab) δ) := [(201, calleeS tab slices_Equal_uint64_uint64.ms slices_Equal_uint64_uint64.as slices_Equal_uint64_uint64.rs slices_Equal_uint64_uint64.fn)]
theorem impl_sameBits.gok (δ : Type) : AllCon Tryz.prog tab (impl_sameBits.gs δ) := .cons slices_Equal_uint64_uint64.con (.nil)
noncomputable def impl_sameBits.c : Ctx (GT tab) (KT tab) (ResT tab impl_sameBits.rs) := { X := XT tab, ty := tyOf tys, inner := fun _ => true, keep := keepOf 0 impl_sameBits.ms, cuts := [], live := liveOf [], G := getG (impl_sameBits.gs _) }
noncomputable def impl_sameBits.b : Code := bodyOf Tryz.f179
noncomputable def impl_sameBits (x0 : Int × (List Int)) (x1 : Int × (List Int)) : Option (Bool) := callW impl_sameBits.c (fiOf (GT tab) Tryz.f179 impl_sameBits.ms) impl_sameBits.b (decRes tab impl_sameBits.rs) (encArgs tab impl_sameBits.as (x0, x1))
theorem impl_sameBits.fok : FnOk Tryz.prog 179 Tryz.f179 impl_sameBits.ms impl_sameBits.b := ⟨Tryz.func179, by kernel_rfl, by kernel_rfl⟩
noncomputable def impl_sameBits.fn : Args tab impl_sameBits.as → Option (ResT tab impl_sameBits.rs) := fun x => impl_sameBits x.1 x.2
theorem impl_sameBits.con {δ : Type} : Con Tryz.prog (KT tab) 179 (calleeS (β := δ) tab impl_sameBits.ms impl_sameBits.as impl_sameBits.rs impl_sameBits.fn) := con_shape (c := impl_sameBits.c) mixed tysOk (getG_con (impl_sameBits.gok _)) impl_sameBits.fok rfl rfl (fun _ => rfl)
theorem impl_sameBits.eq (x0 : Int × (List Int)) (x1 : Int × (List Int)) : impl_sameBits x0 x1 =
    bif x0.1 == x1.1 then
      (slices_Equal_uint64_uint64 x0.2 x1.2).bind fun y1 =>
      some y1
    else
      some false := by kernel_rfl

/-! ### impl_Bits_sameBits: slices.EqualFunc[[]loop.example/g00688/impl.Bits,[]loop.example/g00688/impl.Bits,loop.example/g00688/impl.Bits,loop.example/g00688/impl.Bits] -/
def impl_Bits_sameBits.ms : List Mode := [.lend, .lend, .lend]
def impl_Bits_sameBits.as : List VSh := [.one (.b (.b (.b (.b (.sl false false 30))))), .one (.b (.b (.b (.b (.sl false false 30))))), .one (.fn 179 [])]
def impl_Bits_sameBits.rs : RSh := ⟨[.one (.b (.b (.b (.b (.bool)))))], [none, none, none]⟩
noncomputable def impl_Bits_sameBits.gs (δ : Type) : List (Nat × Callee (GT tab) δ) := [(179, calleeS tab impl_sameBits.ms impl_sameBits.as impl_sameBits.rs impl_sameBits.fn)]
theorem impl_Bits_sameBits.gok (δ : Type) : AllCon Tryz.prog tab (impl_Bits_sameBits.gs δ) := .cons impl_sameBits.con (.nil)
noncomputable def impl_Bits_sameBits.c : Ctx (GT tab) (KT tab) (ResT tab impl_Bits_sameBits.rs) := { X := XT tab, ty := tyOf tys, inner := fun _ => true, keep := keepOf 0 impl_Bits_sameBits.ms, cuts := [], live := liveOf [(4, [1, 2, 15, 16, 17])], G := getG (impl_Bits_sameBits.gs _) }
noncomputable def impl_Bits_sameBits.b : Code := bodyOf Tryz.f200
noncomputable def impl_Bits_sameBits (x0 : List (Int × (List Int))) (x1 : List (Int × (List Int))) (x2 : Unit) : Option (Bool) := callW impl_Bits_sameBits.c (fiOf (GT tab) Tryz.f200 impl_Bits_sameBits.ms) impl_Bits_sameBits.b (decRes tab impl_Bits_sameBits.rs) (encArgs tab impl_Bits_sameBits.as (x0, x1, x2))
theorem impl_Bits_sameBits.fok : FnOk Tryz.prog 200 Tryz.f200 impl_Bits_sameBits.ms impl_Bits_sameBits.b := ⟨Tryz.func200, by kernel_rfl, by kernel_rfl⟩
noncomputable def impl_Bits_sameBits.fn : Args tab impl_Bits_sameBits.as → Option (ResT tab impl_Bits_sameBits.rs) := fun x => impl_Bits_sameBits x.1 x.2.1 x.2.2
theorem impl_Bits_sameBits.con {δ : Type} : Con Tryz.prog (KT tab) 200 (calleeS (β := δ) tab impl_Bits_sameBits.ms impl_Bits_sameBits.as impl_Bits_sameBits.rs impl_Bits_sameBits.fn) := con_shape (c := impl_Bits_sameBits.c) mixed tysOk (getG_con (impl_Bits_sameBits.gok _)) impl_Bits_sameBits.fok rfl rfl (fun _ => rfl)
noncomputable def impl_Bits_sameBits_l0 (v0 : List (Int × (List Int))) (v1 : List (Int × (List Int))) (v2 : Int) (v3 : Int) : Option (Bool) := Lw impl_Bits_sameBits.c (finish impl_Bits_sameBits.c (fiOf (GT tab) Tryz.f200 impl_Bits_sameBits.ms) (decRes tab impl_Bits_sameBits.rs)) ((loops impl_Bits_sameBits.c.cuts 1000 impl_Bits_sameBits.b []).getD 0 []) { slots := [.undef, .vs false 30 v0, .fn 179 [], .undef, .undef, .undef, .undef, .undef, .undef, .undef, .undef, .undef, .undef, .undef, .undef, .vs false 30 v1, .int .i64 v2, .int .i64 v3, .undef, .undef, .undef, .undef, .undef, .undef, .undef, .undef, .undef, .undef, .undef, .undef, .undef, .undef], loc := locOf [], nx := 0 }
theorem impl_Bits_sameBits.eq (x0 : List (Int × (List Int))) (x1 : List (Int × (List Int))) (x2 : Unit) : impl_Bits_sameBits x0 x1 x2 =
    bif (x0.length : Int) != (x1.length : Int) then
      some false
    else
      impl_Bits_sameBits_l0 x1 x0 (x0.length : Int) (0 : Int) := by kernel_rfl
theorem impl_Bits_sameBits_l0.eq (v0 : List (Int × (List Int))) (v1 : List (Int × (List Int))) (v2 : Int) (v3 : Int) : impl_Bits_sameBits_l0 v0 v1 v2 v3 =
    bif decide (v3 < v2) then
      (at? v1 v3).bind fun y1 =>
      (at? v0 v3).bind fun y2 =>
      (impl_sameBits (y1.1, y1.2) (y2.1, y2.2)).bind fun y3 =>
      bif !y3 then
        some false
      else
        impl_Bits_sameBits_l0 v0 v1 v2 (IntKind.i64.wrap (v3 + (1 : Int)))
    else
      some true := (Lw_eq tysOk (getG_con (impl_Bits_sameBits.gok _)) _ _).trans (by kernel_rfl)

/-! ### impl_sameWave: loop.example/g00688/impl.sameWave -/
def impl_sameWave.ms : List Mode := [.lend, .lend]
def impl_sameWave.as : List VSh := [.agg [.int .i64, .sl false false 3, .sl false false 30], .agg [.int .i64, .sl false false 3, .sl false false 30]]
def impl_sameWave.rs : RSh := ⟨[.one (.b (.b (.b (.b (.bool)))))], [none, none]⟩
noncomputable def impl_sameWave.gs (δ : Type) : List (Nat × Callee (GT tab) δ) := [(156, calleeS tab slices_Equal_int_int.ms slices_Equal_int_int.as slices_Equal_int_int.rs slices_Equal_int_int.fn), (200, calleeS tab impl_Bits_sameBits.ms impl_Bits_sameBits.as impl_Bits_sameBits.rs impl_Bits_sameBits.fn)]
theorem impl_sameWave.gok (δ : Type) : AllCon Tryz.prog tab (impl_sameWave.gs δ) := .cons slices_Equal_int_int.con (.cons impl_Bits_sameBits.con (.nil))
noncomputable def impl_sameWave.c : Ctx (GT tab) (KT tab) (ResT tab impl_sameWave.rs) := { X := XT tab, ty := tyOf tys, inner := fun _ => true, keep := keepOf 0 impl_sameWave.ms, cuts := [], live := liveOf [], G := getG (impl_sameWave.gs _) }
noncomputable def impl_sameWave.b : Code := bodyOf Tryz.f178
noncomputable def impl_sameWave (x0 : Int × (List Int) × (List (Int × (List Int)))) (x1 : Int × (List Int) × (List (Int × (List Int)))) : Option (Bool) := callW impl_sameWave.c (fiOf (GT tab) Tryz.f178 impl_sameWave.ms) impl_sameWave.b (decRes tab impl_sameWave.rs) (encArgs tab impl_sameWave.as (x0, x1))
theorem impl_sameWave.fok : FnOk Tryz.prog 178 Tryz.f178 impl_sameWave.ms impl_sameWave.b := ⟨Tryz.func178, by kernel_rfl, by kernel_rfl⟩
noncomputable def impl_sameWave.fn : Args tab impl_sameWave.as → Option (ResT tab impl_sameWave.rs) := fun x => impl_sameWave x.1 x.2
theorem impl_sameWave.con {δ : Type} : Con Tryz.prog (KT tab) 178 (calleeS (β := δ) tab impl_sameWave.ms impl_sameWave.as impl_sameWave.rs impl_sameWave.fn) := con_shape (c := impl_sameWave.c) mixed tysOk (getG_con (impl_sameWave.gok _)) impl_sameWave.fok rfl rfl (fun _ => rfl)
theorem impl_sameWave.eq (x0 : Int × (List Int) × (List (Int × (List Int)))) (x1 : Int × (List Int) × (List (Int × (List Int)))) : impl_sameWave x0 x1 =
    bif x0.1 == x1.1 then
      (slices_Equal_int_int x0.2.1 x1.2.1).bind fun y1 =>
      bif y1 then
        (impl_Bits_sameBits x0.2.2 x1.2.2 ()).bind fun y2 =>
        some y2
      else
        some false
    else
      some false := by kernel_rfl

/-! ### impl_samePacked: loop.example/g00688/impl.samePacked -/
def impl_samePacked.ms : List Mode := [.lend, .lend]
def impl_samePacked.as : List VSh := [.agg [.int .i64, .int .i64, .int .i64, .sl false false 126], .agg [.int .i64, .int .i64, .int .i64, .sl false false 126]]
def impl_samePacked.rs : RSh := ⟨[.one (.b (.b (.b (.b (.bool)))))], [none, none]⟩
noncomputable def impl_samePacked.gs (δ : Type) : List (Nat × Callee (GT tab) δ) := [(179, calleeS tab impl_sameBits.ms impl_sameBits.as impl_sameBits.rs impl_sameBits.fn)]
theorem impl_samePacked.gok (δ : Type) : AllCon Tryz.prog tab (impl_samePacked.gs δ) := .cons impl_sameBits.con (.nil)
noncomputable def impl_samePacked.c : Ctx (GT tab) (KT tab) (ResT tab impl_samePacked.rs) := { X := XT tab, ty := tyOf tys, inner := fun _ => true, keep := keepOf 0 impl_samePacked.ms, cuts := [], live := liveOf [], G := getG (impl_samePacked.gs _) }
noncomputable def impl_samePacked.b : Code := bodyOf Tryz.f180
noncomputable def impl_samePacked (x0 : Int × Int × Int × (List Int)) (x1 : Int × Int × Int × (List Int)) : Option (Bool) := callW impl_samePacked.c (fiOf (GT tab) Tryz.f180 impl_samePacked.ms) impl_samePacked.b (decRes tab impl_samePacked.rs) (encArgs tab impl_samePacked.as (x0, x1))
theorem impl_samePacked.fok : FnOk Tryz.prog 180 Tryz.f180 impl_samePacked.ms impl_samePacked.b := ⟨Tryz.func180, by kernel_rfl, by kernel_rfl⟩
noncomputable def impl_samePacked.fn : Args tab impl_samePacked.as → Option (ResT tab impl_samePacked.rs) := fun x => impl_samePacked x.1 x.2
theorem impl_samePacked.con {δ : Type} : Con Tryz.prog (KT tab) 180 (calleeS (β := δ) tab impl_samePacked.ms impl_samePacked.as impl_samePacked.rs impl_samePacked.fn) := con_shape (c := impl_samePacked.c) mixed tysOk (getG_con (impl_samePacked.gok _)) impl_samePacked.fok rfl rfl (fun _ => rfl)
theorem impl_samePacked.eq (x0 : Int × Int × Int × (List Int)) (x1 : Int × Int × Int × (List Int)) : impl_samePacked x0 x1 =
    bif x0.1 == x1.1 then
      bif x0.2.1 == x1.2.1 then
        (impl_sameBits (x0.2.2.1, x0.2.2.2) (x1.2.2.1, x1.2.2.2)).bind fun y1 =>
        some y1
      else
        some false
    else
      some false := by kernel_rfl

/-! ### impl_sameFm: loop.example/g00688/impl.sameFm -/
def impl_sameFm.ms : List Mode := [.lend, .lend]
def impl_sameFm.as : List VSh := [.agg [.int .i64, .int .i64, .int .i64, .sl false false 3, .sl false false 30, .sl false false 3, .int .i64, .sl false false 126, .int .i64, .int .i64, .int .i64, .sl false false 126, .int .i64, .int .i64, .int .i64, .sl false false 126], .agg [.int .i64, .int .i64, .int .i64, .sl false false 3, .sl false false 30, .sl false false 3, .int .i64, .sl false false 126, .int .i64, .int .i64, .int .i64, .sl false false 126, .int .i64, .int .i64, .int .i64, .sl false false 126]]
def impl_sameFm.rs : RSh := ⟨[.one (.b (.b (.b (.b (.bool)))))], [none, none]⟩
noncomputable def impl_sameFm.gs (δ : Type) : List (Nat × Callee (GT tab) δ) := [(156, calleeS tab slices_Equal_int_int.ms slices_Equal_int_int.as slices_Equal_int_int.rs slices_Equal_int_int.fn), (178, calleeS tab impl_sameWave.ms impl_sameWave.as impl_sameWave.rs impl_sameWave.fn), (179, calleeS tab impl_sameBits.ms impl_sameBits.as impl_sameBits.rs impl_sameBits.fn), (180, calleeS tab impl_samePacked.ms impl_samePacked.as impl_samePacked.rs impl_samePacked.fn)]
theorem impl_sameFm.gok (δ : Type) : AllCon Tryz.prog tab (impl_sameFm.gs δ) := .cons slices_Equal_int_int.con (.cons impl_sameWave.con (.cons impl_sameBits.con (.cons impl_samePacked.con (.nil))))
noncomputable def impl_sameFm.c : Ctx (GT tab) (KT tab) (ResT tab impl_sameFm.rs) := { X := XT tab, ty := tyOf tys, inner := fun _ => true, keep := keepOf 0 impl_sameFm.ms, cuts := [], live := liveOf [], G := getG (impl_sameFm.gs _) }
noncomputable def impl_sameFm.b : Code := bodyOf Tryz.f121
noncomputable def impl_sameFm (x0 : Int × Int × Int × (List Int) × (List (Int × (List Int))) × (List Int) × Int × (List Int) × Int × Int × Int × (List Int) × Int × Int × Int × (List Int)) (x1 : Int × Int × Int × (List Int) × (List (Int × (List Int))) × (List Int) × Int × (List Int) × Int × Int × Int × (List Int) × Int × Int × Int × (List Int)) : Option (Bool) := callW impl_sameFm.c (fiOf (GT tab) Tryz.f121 impl_sameFm.ms) impl_sameFm.b (decRes tab impl_sameFm.rs) (encArgs tab impl_sameFm.as (x0, x1))
theorem impl_sameFm.fok : FnOk Tryz.prog 121 Tryz.f121 impl_sameFm.ms impl_sameFm.b := ⟨Tryz.func121, by kernel_rfl, by kernel_rfl⟩
noncomputable def impl_sameFm.fn : Args tab impl_sameFm.as → Option (ResT tab impl_sameFm.rs) := fun x => impl_sameFm x.1 x.2
theorem impl_sameFm.con {δ : Type} : Con Tryz.prog (KT tab) 121 (calleeS (β := δ) tab impl_sameFm.ms impl_sameFm.as impl_sameFm.rs impl_sameFm.fn) := con_shape (c := impl_sameFm.c) mixed tysOk (getG_con (impl_sameFm.gok _)) impl_sameFm.fok rfl rfl (fun _ => rfl)
theorem impl_sameFm.eq (x0 : Int × Int × Int × (List Int) × (List (Int × (List Int))) × (List Int) × Int × (List Int) × Int × Int × Int × (List Int) × Int × Int × Int × (List Int)) (x1 : Int × Int × Int × (List Int) × (List (Int × (List Int))) × (List Int) × Int × (List Int) × Int × Int × Int × (List Int) × Int × Int × Int × (List Int)) : impl_sameFm x0 x1 =
    bif x0.1 == x1.1 then
      bif x0.2.1 == x1.2.1 then
        (impl_sameWave (x0.2.2.1, x0.2.2.2.1, x0.2.2.2.2.1) (x1.2.2.1, x1.2.2.2.1, x1.2.2.2.2.1)).bind fun y1 =>
        bif y1 then
          (slices_Equal_int_int x0.2.2.2.2.2.1 x1.2.2.2.2.2.1).bind fun y2 =>
          bif y2 then
            (impl_sameBits (x0.2.2.2.2.2.2.1, x0.2.2.2.2.2.2.2.1) (x1.2.2.2.2.2.2.1, x1.2.2.2.2.2.2.2.1)).bind fun y3 =>
            bif y3 then
              (impl_samePacked (x0.2.2.2.2.2.2.2.2.1, x0.2.2.2.2.2.2.2.2.2.1, x0.2.2.2.2.2.2.2.2.2.2.1, x0.2.2.2.2.2.2.2.2.2.2.2.1) (x1.2.2.2.2.2.2.2.2.1, x1.2.2.2.2.2.2.2.2.2.1, x1.2.2.2.2.2.2.2.2.2.2.1, x1.2.2.2.2.2.2.2.2.2.2.2.1)).bind fun y4 =>
              bif y4 then
                (impl_samePacked (x0.2.2.2.2.2.2.2.2.2.2.2.2.1, x0.2.2.2.2.2.2.2.2.2.2.2.2.2.1, x0.2.2.2.2.2.2.2.2.2.2.2.2.2.2.1, x0.2.2.2.2.2.2.2.2.2.2.2.2.2.2.2) (x1.2.2.2.2.2.2.2.2.2.2.2.2.1, x1.2.2.2.2.2.2.2.2.2.2.2.2.2.1, x1.2.2.2.2.2.2.2.2.2.2.2.2.2.2.1, x1.2.2.2.2.2.2.2.2.2.2.2.2.2.2.2)).bind fun y5 =>
                some y5
              else
                some false
            else
              some false
          else
            some false
        else
          some false
      else
        some false
    else
      some false := by kernel_rfl

/-! ### impl_Fm_read: (loop.example/g00688/impl.Fm).read -/
def impl_Fm_read.ms : List Mode := [.lend]
def impl_Fm_read.as : List VSh := [.agg [.int .i64, .int .i64, .int .i64, .sl false false 3, .sl false false 30, .sl false false 3, .int .i64, .sl false false 126, .int .i64, .int .i64, .int .i64, .sl false false 126, .int .i64, .int .i64, .int .i64, .sl false false 126]]
def impl_Fm_read.rs : RSh := ⟨[.one (.b (.b (.b (.b (.sl true true 5))))), .one (.b (.b (.b (.b (.bool)))))], [none]⟩
noncomputable def impl_Fm_read.gs (δ : Type) : List (Nat × Callee (GT tab) δ) := [(101, calleeS tab impl_isRate.ms impl_isRate.as impl_isRate.rs impl_isRate.fn), (103, calleeS tab impl_BwtText.ms impl_BwtText.as impl_BwtText.rs impl_BwtText.fn), (105, calleeS tab impl_fmOf.ms impl_fmOf.as impl_fmOf.rs impl_fmOf.fn), (120, calleeS tab impl_Wave_read.ms impl_Wave_read.as impl_Wave_read.rs impl_Wave_read.fn), (121, calleeS tab impl_sameFm.ms impl_sameFm.as impl_sameFm.rs impl_sameFm.fn)]
theorem impl_Fm_read.gok (δ : Type) : AllCon Tryz.prog tab (impl_Fm_read.gs δ) := .cons impl_isRate.con (.cons impl_BwtText.con (.cons impl_fmOf.con (.cons impl_Wave_read.con (.cons impl_sameFm.con (.nil)))))
noncomputable def impl_Fm_read.c : Ctx (GT tab) (KT tab) (ResT tab impl_Fm_read.rs) := { X := XT tab, ty := tyOf tys, inner := fun _ => true, keep := keepOf 0 impl_Fm_read.ms, cuts := [], live := liveOf [], G := getG (impl_Fm_read.gs _) }
noncomputable def impl_Fm_read.b : Code := bodyOf Tryz.f58
noncomputable def impl_Fm_read (x0 : Int × Int × Int × (List Int) × (List (Int × (List Int))) × (List Int) × Int × (List Int) × Int × Int × Int × (List Int) × Int × Int × Int × (List Int)) : Option ((List Int) × Bool) := callW impl_Fm_read.c (fiOf (GT tab) Tryz.f58 impl_Fm_read.ms) impl_Fm_read.b (decRes tab impl_Fm_read.rs) (encArgs tab impl_Fm_read.as x0)
theorem impl_Fm_read.fok : FnOk Tryz.prog 58 Tryz.f58 impl_Fm_read.ms impl_Fm_read.b := ⟨Tryz.func58, by kernel_rfl, by kernel_rfl⟩
noncomputable def impl_Fm_read.fn : Args tab impl_Fm_read.as → Option (ResT tab impl_Fm_read.rs) := fun x => impl_Fm_read x
theorem impl_Fm_read.con {δ : Type} : Con Tryz.prog (KT tab) 58 (calleeS (β := δ) tab impl_Fm_read.ms impl_Fm_read.as impl_Fm_read.rs impl_Fm_read.fn) := con_shape (c := impl_Fm_read.c) mixed tysOk (getG_con (impl_Fm_read.gok _)) impl_Fm_read.fok rfl rfl (fun _ => rfl)
theorem impl_Fm_read.eq (x0 : Int × Int × Int × (List Int) × (List (Int × (List Int))) × (List Int) × Int × (List Int) × Int × Int × Int × (List Int) × Int × Int × Int × (List Int)) : impl_Fm_read x0 =
    (impl_Wave_read (x0.2.2.1, x0.2.2.2.1, x0.2.2.2.2.1)).bind fun y1 =>
    bif !y1.2 then
      some (([] : List Int), false)
    else
      (impl_isRate x0.2.1).bind fun y2 =>
      bif !y2 then
        some (([] : List Int), false)
      else
        (impl_BwtText y1.1).bind fun y3 =>
        bif y3.2 then
          (impl_fmOf y3.1 x0.2.1).bind fun y4 =>
          (impl_sameFm (y4.1, y4.2.1, y4.2.2.1, y4.2.2.2.1, y4.2.2.2.2.1, y4.2.2.2.2.2.1, y4.2.2.2.2.2.2.1, y4.2.2.2.2.2.2.2.1, y4.2.2.2.2.2.2.2.2.1, y4.2.2.2.2.2.2.2.2.2.1, y4.2.2.2.2.2.2.2.2.2.2.1, y4.2.2.2.2.2.2.2.2.2.2.2.1, y4.2.2.2.2.2.2.2.2.2.2.2.2.1, y4.2.2.2.2.2.2.2.2.2.2.2.2.2.1, y4.2.2.2.2.2.2.2.2.2.2.2.2.2.2.1, y4.2.2.2.2.2.2.2.2.2.2.2.2.2.2.2) (x0.1, x0.2.1, x0.2.2.1, x0.2.2.2.1, x0.2.2.2.2.1, x0.2.2.2.2.2.1, x0.2.2.2.2.2.2.1, x0.2.2.2.2.2.2.2.1, x0.2.2.2.2.2.2.2.2.1, x0.2.2.2.2.2.2.2.2.2.1, x0.2.2.2.2.2.2.2.2.2.2.1, x0.2.2.2.2.2.2.2.2.2.2.2.1, x0.2.2.2.2.2.2.2.2.2.2.2.2.1, x0.2.2.2.2.2.2.2.2.2.2.2.2.2.1, x0.2.2.2.2.2.2.2.2.2.2.2.2.2.2.1, x0.2.2.2.2.2.2.2.2.2.2.2.2.2.2.2)).bind fun y5 =>
          some (y3.1, y5)
        else
          some (y3.1, false) := by kernel_rfl

/-! ### laws_eqIntS: loop.example/g00688/laws.eqIntS -/
def laws_eqIntS.ms : List Mode := [.lend, .lend]
def laws_eqIntS.as : List VSh := [.one (.b (.b (.b (.b (.sl false false 3))))), .one (.b (.b (.b (.b (.sl false false 3)))))]
def laws_eqIntS.rs : RSh := ⟨[.one (.b (.b (.b (.b (.bool)))))], [none, none]⟩
noncomputable def laws_eqIntS.gs (δ : Type) : List (Nat × Callee (GT tab) δ) := []
theorem laws_eqIntS.gok (δ : Type) : AllCon Tryz.prog tab (laws_eqIntS.gs δ) := .nil
noncomputable def laws_eqIntS.c : Ctx (GT tab) (KT tab) (ResT tab laws_eqIntS.rs) := { X := XT tab, ty := tyOf tys, inner := fun _ => true, keep := keepOf 0 laws_eqIntS.ms, cuts := [], live := liveOf [(4, [0, 1, 5])], G := getG (laws_eqIntS.gs _) }
noncomputable def laws_eqIntS.b : Code := bodyOf Tryz.f45
noncomputable def laws_eqIntS (x0 : List Int) (x1 : List Int) : Option (Bool) := callW laws_eqIntS.c (fiOf (GT tab) Tryz.f45 laws_eqIntS.ms) laws_eqIntS.b (decRes tab laws_eqIntS.rs) (encArgs tab laws_eqIntS.as (x0, x1))
theorem laws_eqIntS.fok : FnOk Tryz.prog 45 Tryz.f45 laws_eqIntS.ms laws_eqIntS.b := ⟨Tryz.func45, by kernel_rfl, by kernel_rfl⟩
noncomputable def laws_eqIntS.fn : Args tab laws_eqIntS.as → Option (ResT tab laws_eqIntS.rs) := fun x => laws_eqIntS x.1 x.2
theorem laws_eqIntS.con {δ : Type} : Con Tryz.prog (KT tab) 45 (calleeS (β := δ) tab laws_eqIntS.ms laws_eqIntS.as laws_eqIntS.rs laws_eqIntS.fn) := con_shape (c := laws_eqIntS.c) mixed tysOk (getG_con (laws_eqIntS.gok _)) laws_eqIntS.fok rfl rfl (fun _ => rfl)
noncomputable def laws_eqIntS_l0 (v0 : List Int) (v1 : List Int) (v2 : Int) : Option (Bool) := Lw laws_eqIntS.c (finish laws_eqIntS.c (fiOf (GT tab) Tryz.f45 laws_eqIntS.ms) (decRes tab laws_eqIntS.rs)) ((loops laws_eqIntS.c.cuts 1000 laws_eqIntS.b []).getD 0 []) { slots := [.vs false 3 v0, .vs false 3 v1, .undef, .undef, .undef, .int .i64 v2, .undef, .undef, .undef, .undef, .undef, .undef, .undef, .undef, .undef, .undef, .undef, .undef, .undef, .undef, .undef, .undef, .undef, .undef, .undef, .undef], loc := locOf [], nx := 0 }
theorem laws_eqIntS.eq (x0 : List Int) (x1 : List Int) : laws_eqIntS x0 x1 =
    bif (x0.length : Int) != (x1.length : Int) then
      some false
    else
      laws_eqIntS_l0 x0 x1 (0 : Int) := by kernel_rfl
theorem laws_eqIntS_l0.eq (v0 : List Int) (v1 : List Int) (v2 : Int) : laws_eqIntS_l0 v0 v1 v2 =
    bif decide (v2 < (v0.length : Int)) then
      (at? v0 v2).bind fun y1 =>
      (at? v1 v2).bind fun y2 =>
      bif y1 != y2 then
        some false
      else
        laws_eqIntS_l0 v0 v1 (IntKind.i64.wrap (v2 + (1 : Int)))
    else
      some true := (Lw_eq tysOk (getG_con (laws_eqIntS.gok _)) _ _).trans (by kernel_rfl)

/-! ### laws_eqUint64S: loop.example/g00688/laws.eqUint64S -/
def laws_eqUint64S.ms : List Mode := [.lend, .lend]
def laws_eqUint64S.as : List VSh := [.one (.b (.b (.b (.b (.sl false false 126))))), .one (.b (.b (.b (.b (.sl false false 126)))))]
def laws_eqUint64S.rs : RSh := ⟨[.one (.b (.b (.b (.b (.bool)))))], [none, none]⟩
noncomputable def laws_eqUint64S.gs (δ : Type) : List (Nat × Callee (GT tab) δ) := []
theorem laws_eqUint64S.gok (δ : Type) : AllCon Tryz.prog tab (laws_eqUint64S.gs δ) := .nil
noncomputable def laws_eqUint64S.c : Ctx (GT tab) (KT tab) (ResT tab laws_eqUint64S.rs) := { X := XT tab, ty := tyOf tys, inner := fun _ => true, keep := keepOf 0 laws_eqUint64S.ms, cuts := [], live := liveOf [(4, [0, 1, 5])], G := getG (laws_eqUint64S.gs _) }
noncomputable def laws_eqUint64S.b : Code := bodyOf Tryz.f141
noncomputable def laws_eqUint64S (x0 : List Int) (x1 : List Int) : Option (Bool) := callW laws_eqUint64S.c (fiOf (GT tab) Tryz.f141 laws_eqUint64S.ms) laws_eqUint64S.b (decRes tab laws_eqUint64S.rs) (encArgs tab laws_eqUint64S.as (x0, x1))
theorem laws_eqUint64S.fok : FnOk Tryz.prog 141 Tryz.f141 laws_eqUint64S.ms laws_eqUint64S.b := ⟨Tryz.func141, by kernel_rfl, by kernel_rfl⟩
noncomputable def laws_eqUint64S.fn : Args tab laws_eqUint64S.as → Option (ResT tab laws_eqUint64S.rs) := fun x => laws_eqUint64S x.1 x.2
theorem laws_eqUint64S.con {δ : Type} : Con Tryz.prog (KT tab) 141 (calleeS (β := δ) tab laws_eqUint64S.ms laws_eqUint64S.as laws_eqUint64S.rs laws_eqUint64S.fn) := con_shape (c := laws_eqUint64S.c) mixed tysOk (getG_con (laws_eqUint64S.gok _)) laws_eqUint64S.fok rfl rfl (fun _ => rfl)
noncomputable def laws_eqUint64S_l0 (v0 : List Int) (v1 : List Int) (v2 : Int) : Option (Bool) := Lw laws_eqUint64S.c (finish laws_eqUint64S.c (fiOf (GT tab) Tryz.f141 laws_eqUint64S.ms) (decRes tab laws_eqUint64S.rs)) ((loops laws_eqUint64S.c.cuts 1000 laws_eqUint64S.b []).getD 0 []) { slots := [.vs false 126 v0, .vs false 126 v1, .undef, .undef, .undef, .int .i64 v2, .undef, .undef, .undef, .undef, .undef, .undef, .undef, .undef, .undef, .undef, .undef, .undef, .undef, .undef, .undef, .undef, .undef, .undef, .undef, .undef], loc := locOf [], nx := 0 }
theorem laws_eqUint64S.eq (x0 : List Int) (x1 : List Int) : laws_eqUint64S x0 x1 =
    bif (x0.length : Int) != (x1.length : Int) then
      some false
    else
      laws_eqUint64S_l0 x0 x1 (0 : Int) := by kernel_rfl
theorem laws_eqUint64S_l0.eq (v0 : List Int) (v1 : List Int) (v2 : Int) : laws_eqUint64S_l0 v0 v1 v2 =
    bif decide (v2 < (v0.length : Int)) then
      (at? v0 v2).bind fun y1 =>
      (at? v1 v2).bind fun y2 =>
      bif y1 != y2 then
        some false
      else
        laws_eqUint64S_l0 v0 v1 (IntKind.i64.wrap (v2 + (1 : Int)))
    else
      some true := (Lw_eq tysOk (getG_con (laws_eqUint64S.gok _)) _ _).trans (by kernel_rfl)

/-! ### laws_eqBits: loop.example/g00688/laws.eqBits -/
def laws_eqBits.ms : List Mode := [.lend, .lend]
def laws_eqBits.as : List VSh := [.agg [.int .i64, .sl false false 126], .agg [.int .i64, .sl false false 126]]
def laws_eqBits.rs : RSh := ⟨[.one (.b (.b (.b (.b (.bool)))))], [none, none]⟩
noncomputable def laws_eqBits.gs (δ : Type) : List (Nat × Callee (GT tab) δ) := [(141, calleeS tab laws_eqUint64S.ms laws_eqUint64S.as laws_eqUint64S.rs laws_eqUint64S.fn)]
theorem laws_eqBits.gok (δ : Type) : AllCon Tryz.prog tab (laws_eqBits.gs δ) := .cons laws_eqUint64S.con (.nil)
noncomputable def laws_eqBits.c : Ctx (GT tab) (KT tab) (ResT tab laws_eqBits.rs) := { X := XT tab, ty := tyOf tys, inner := fun _ => true, keep := keepOf 0 laws_eqBits.ms, cuts := [], live := liveOf [], G := getG (laws_eqBits.gs _) }
noncomputable def laws_eqBits.b : Code := bodyOf Tryz.f87
noncomputable def laws_eqBits (x0 : Int × (List Int)) (x1 : Int × (List Int)) : Option (Bool) := callW laws_eqBits.c (fiOf (GT tab) Tryz.f87 laws_eqBits.ms) laws_eqBits.b (decRes tab laws_eqBits.rs) (encArgs tab laws_eqBits.as (x0, x1))
theorem laws_eqBits.fok : FnOk Tryz.prog 87 Tryz.f87 laws_eqBits.ms laws_eqBits.b := ⟨Tryz.func87, by kernel_rfl, by kernel_rfl⟩
noncomputable def laws_eqBits.fn : Args tab laws_eqBits.as → Option (ResT tab laws_eqBits.rs) := fun x => laws_eqBits x.1 x.2
theorem laws_eqBits.con {δ : Type} : Con Tryz.prog (KT tab) 87 (calleeS (β := δ) tab laws_eqBits.ms laws_eqBits.as laws_eqBits.rs laws_eqBits.fn) := con_shape (c := laws_eqBits.c) mixed tysOk (getG_con (laws_eqBits.gok _)) laws_eqBits.fok rfl rfl (fun _ => rfl)
theorem laws_eqBits.eq (x0 : Int × (List Int)) (x1 : Int × (List Int)) : laws_eqBits x0 x1 =
    bif x0.1 != x1.1 then
      some false
    else
      (laws_eqUint64S x0.2 x1.2).bind fun y1 =>
      bif !y1 then
        some false
      else
        some true := by kernel_rfl

/-! ### laws_eqBitsS: loop.example/g00688/laws.eqBitsS -/
def laws_eqBitsS.ms : List Mode := [.lend, .lend]
def laws_eqBitsS.as : List VSh := [.one (.b (.b (.b (.b (.sl false false 30))))), .one (.b (.b (.b (.b (.sl false false 30)))))]
def laws_eqBitsS.rs : RSh := ⟨[.one (.b (.b (.b (.b (.bool)))))], [none, none]⟩
noncomputable def laws_eqBitsS.gs (δ : Type) : List (Nat × Callee (GT tab) δ) := [(87, calleeS tab laws_eqBits.ms laws_eqBits.as laws_eqBits.rs laws_eqBits.fn)]
theorem laws_eqBitsS.gok (δ : Type) : AllCon Tryz.prog tab (laws_eqBitsS.gs δ) := .cons laws_eqBits.con (.nil)
noncomputable def laws_eqBitsS.c : Ctx (GT tab) (KT tab) (ResT tab laws_eqBitsS.rs) := { X := XT tab, ty := tyOf tys, inner := fun _ => true, keep := keepOf 0 laws_eqBitsS.ms, cuts := [], live := liveOf [(4, [0, 1, 5])], G := getG (laws_eqBitsS.gs _) }
noncomputable def laws_eqBitsS.b : Code := bodyOf Tryz.f140
noncomputable def laws_eqBitsS (x0 : List (Int × (List Int))) (x1 : List (Int × (List Int))) : Option (Bool) := callW laws_eqBitsS.c (fiOf (GT tab) Tryz.f140 laws_eqBitsS.ms) laws_eqBitsS.b (decRes tab laws_eqBitsS.rs) (encArgs tab laws_eqBitsS.as (x0, x1))
theorem laws_eqBitsS.fok : FnOk Tryz.prog 140 Tryz.f140 laws_eqBitsS.ms laws_eqBitsS.b := ⟨Tryz.func140, by kernel_rfl, by kernel_rfl⟩
noncomputable def laws_eqBitsS.fn : Args tab laws_eqBitsS.as → Option (ResT tab laws_eqBitsS.rs) := fun x => laws_eqBitsS x.1 x.2
theorem laws_eqBitsS.con {δ : Type} : Con Tryz.prog (KT tab) 140 (calleeS (β := δ) tab laws_eqBitsS.ms laws_eqBitsS.as laws_eqBitsS.rs laws_eqBitsS.fn) := con_shape (c := laws_eqBitsS.c) mixed tysOk (getG_con (laws_eqBitsS.gok _)) laws_eqBitsS.fok rfl rfl (fun _ => rfl)
noncomputable def laws_eqBitsS_l0 (v0 : List (Int × (List Int))) (v1 : List (Int × (List Int))) (v2 : Int) : Option (Bool) := Lw laws_eqBitsS.c (finish laws_eqBitsS.c (fiOf (GT tab) Tryz.f140 laws_eqBitsS.ms) (decRes tab laws_eqBitsS.rs)) ((loops laws_eqBitsS.c.cuts 1000 laws_eqBitsS.b []).getD 0 []) { slots := [.vs false 30 v0, .vs false 30 v1, .undef, .undef, .undef, .int .i64 v2, .undef, .undef, .undef, .undef, .undef, .undef, .undef, .undef, .undef, .undef, .undef, .undef, .undef, .undef, .undef, .undef, .undef, .undef, .undef, .undef, .undef], loc := locOf [], nx := 0 }
theorem laws_eqBitsS.eq (x0 : List (Int × (List Int))) (x1 : List (Int × (List Int))) : laws_eqBitsS x0 x1 =
    bif (x0.length : Int) != (x1.length : Int) then
      some false
    else
      laws_eqBitsS_l0 x0 x1 (0 : Int) := by kernel_rfl
theorem laws_eqBitsS_l0.eq (v0 : List (Int × (List Int))) (v1 : List (Int × (List Int))) (v2 : Int) : laws_eqBitsS_l0 v0 v1 v2 =
    bif decide (v2 < (v0.length : Int)) then
      (at? v0 v2).bind fun y1 =>
      (at? v1 v2).bind fun y2 =>
      (laws_eqBits (y1.1, y1.2) (y2.1, y2.2)).bind fun y3 =>
      bif !y3 then
        some false
      else
        laws_eqBitsS_l0 v0 v1 (IntKind.i64.wrap (v2 + (1 : Int)))
    else
      some true := (Lw_eq tysOk (getG_con (laws_eqBitsS.gok _)) _ _).trans (by kernel_rfl)

/-! ### laws_eqWave: loop.example/g00688/laws.eqWave -/
def laws_eqWave.ms : List Mode := [.lend, .lend]
def laws_eqWave.as : List VSh := [.agg [.int .i64, .sl false false 3, .sl false false 30], .agg [.int .i64, .sl false false 3, .sl false false 30]]
def laws_eqWave.rs : RSh := ⟨[.one (.b (.b (.b (.b (.bool)))))], [none, none]⟩
noncomputable def laws_eqWave.gs (δ : Type) : List (Nat × Callee (GT tab) δ) := [(45, calleeS tab laws_eqIntS.ms laws_eqIntS.as laws_eqIntS.rs laws_eqIntS.fn), (140, calleeS tab laws_eqBitsS.ms laws_eqBitsS.as laws_eqBitsS.rs laws_eqBitsS.fn)]
theorem laws_eqWave.gok (δ : Type) : AllCon Tryz.prog tab (laws_eqWave.gs δ) := .cons laws_eqIntS.con (.cons laws_eqBitsS.con (.nil))
noncomputable def laws_eqWave.c : Ctx (GT tab) (KT tab) (ResT tab laws_eqWave.rs) := { X := XT tab, ty := tyOf tys, inner := fun _ => true, keep := keepOf 0 laws_eqWave.ms, cuts := [], live := liveOf [], G := getG (laws_eqWave.gs _) }
noncomputable def laws_eqWave.b : Code := bodyOf Tryz.f86
noncomputable def laws_eqWave (x0 : Int × (List Int) × (List (Int × (List Int)))) (x1 : Int × (List Int) × (List (Int × (List Int)))) : Option (Bool) := callW laws_eqWave.c (fiOf (GT tab) Tryz.f86 laws_eqWave.ms) laws_eqWave.b (decRes tab laws_eqWave.rs) (encArgs tab laws_eqWave.as (x0, x1))
theorem laws_eqWave.fok : FnOk Tryz.prog 86 Tryz.f86 laws_eqWave.ms laws_eqWave.b := ⟨Tryz.func86, by kernel_rfl, by kernel_rfl⟩
noncomputable def laws_eqWave.fn : Args tab laws_eqWave.as → Option (ResT tab laws_eqWave.rs) := fun x => laws_eqWave x.1 x.2
theorem laws_eqWave.con {δ : Type} : Con Tryz.prog (KT tab) 86 (calleeS (β := δ) tab laws_eqWave.ms laws_eqWave.as laws_eqWave.rs laws_eqWave.fn) := con_shape (c := laws_eqWave.c) mixed tysOk (getG_con (laws_eqWave.gok _)) laws_eqWave.fok rfl rfl (fun _ => rfl)
theorem laws_eqWave.eq (x0 : Int × (List Int) × (List (Int × (List Int)))) (x1 : Int × (List Int) × (List (Int × (List Int)))) : laws_eqWave x0 x1 =
    bif x0.1 != x1.1 then
      some false
    else
      (laws_eqIntS x0.2.1 x1.2.1).bind fun y1 =>
      bif !y1 then
        some false
      else
        (laws_eqBitsS x0.2.2 x1.2.2).bind fun y2 =>
        bif !y2 then
          some false
        else
          some true := by kernel_rfl

/-! ### laws_eqPacked: loop.example/g00688/laws.eqPacked -/
def laws_eqPacked.ms : List Mode := [.lend, .lend]
def laws_eqPacked.as : List VSh := [.agg [.int .i64, .int .i64, .int .i64, .sl false false 126], .agg [.int .i64, .int .i64, .int .i64, .sl false false 126]]
def laws_eqPacked.rs : RSh := ⟨[.one (.b (.b (.b (.b (.bool)))))], [none, none]⟩
noncomputable def laws_eqPacked.gs (δ : Type) : List (Nat × Callee (GT tab) δ) := [(87, calleeS tab laws_eqBits.ms laws_eqBits.as laws_eqBits.rs laws_eqBits.fn)]
theorem laws_eqPacked.gok (δ : Type) : AllCon Tryz.prog tab (laws_eqPacked.gs δ) := .cons laws_eqBits.con (.nil)
noncomputable def laws_eqPacked.c : Ctx (GT tab) (KT tab) (ResT tab laws_eqPacked.rs) := { X := XT tab, ty := tyOf tys, inner := fun _ => true, keep := keepOf 0 laws_eqPacked.ms, cuts := [], live := liveOf [], G := getG (laws_eqPacked.gs _) }
noncomputable def laws_eqPacked.b : Code := bodyOf Tryz.f88
noncomputable def laws_eqPacked (x0 : Int × Int × Int × (List Int)) (x1 : Int × Int × Int × (List Int)) : Option (Bool) := callW laws_eqPacked.c (fiOf (GT tab) Tryz.f88 laws_eqPacked.ms) laws_eqPacked.b (decRes tab laws_eqPacked.rs) (encArgs tab laws_eqPacked.as (x0, x1))
theorem laws_eqPacked.fok : FnOk Tryz.prog 88 Tryz.f88 laws_eqPacked.ms laws_eqPacked.b := ⟨Tryz.func88, by kernel_rfl, by kernel_rfl⟩
noncomputable def laws_eqPacked.fn : Args tab laws_eqPacked.as → Option (ResT tab laws_eqPacked.rs) := fun x => laws_eqPacked x.1 x.2
theorem laws_eqPacked.con {δ : Type} : Con Tryz.prog (KT tab) 88 (calleeS (β := δ) tab laws_eqPacked.ms laws_eqPacked.as laws_eqPacked.rs laws_eqPacked.fn) := con_shape (c := laws_eqPacked.c) mixed tysOk (getG_con (laws_eqPacked.gok _)) laws_eqPacked.fok rfl rfl (fun _ => rfl)
theorem laws_eqPacked.eq (x0 : Int × Int × Int × (List Int)) (x1 : Int × Int × Int × (List Int)) : laws_eqPacked x0 x1 =
    bif x0.1 != x1.1 then
      some false
    else
      bif x0.2.1 != x1.2.1 then
        some false
      else
        (laws_eqBits (x0.2.2.1, x0.2.2.2) (x1.2.2.1, x1.2.2.2)).bind fun y1 =>
        bif !y1 then
          some false
        else
          some true := by kernel_rfl

/-! ### laws_eqFm: loop.example/g00688/laws.eqFm -/
def laws_eqFm.ms : List Mode := [.lend, .lend]
def laws_eqFm.as : List VSh := [.agg [.int .i64, .int .i64, .int .i64, .sl false false 3, .sl false false 30, .sl false false 3, .int .i64, .sl false false 126, .int .i64, .int .i64, .int .i64, .sl false false 126, .int .i64, .int .i64, .int .i64, .sl false false 126], .agg [.int .i64, .int .i64, .int .i64, .sl false false 3, .sl false false 30, .sl false false 3, .int .i64, .sl false false 126, .int .i64, .int .i64, .int .i64, .sl false false 126, .int .i64, .int .i64, .int .i64, .sl false false 126]]
def laws_eqFm.rs : RSh := ⟨[.one (.b (.b (.b (.b (.bool)))))], [none, none]⟩
noncomputable def laws_eqFm.gs (δ : Type) : List (Nat × Callee (GT tab) δ) := [(45, calleeS tab laws_eqIntS.ms laws_eqIntS.as laws_eqIntS.rs laws_eqIntS.fn), (86, calleeS tab laws_eqWave.ms laws_eqWave.as laws_eqWave.rs laws_eqWave.fn), (87, calleeS tab laws_eqBits.ms laws_eqBits.as laws_eqBits.rs laws_eqBits.fn), (88, calleeS tab laws_eqPacked.ms laws_eqPacked.as laws_eqPacked.rs laws_eqPacked.fn)]
theorem laws_eqFm.gok (δ : Type) : AllCon Tryz.prog tab (laws_eqFm.gs δ) := .cons laws_eqIntS.con (.cons laws_eqWave.con (.cons laws_eqBits.con (.cons laws_eqPacked.con (.nil))))
noncomputable def laws_eqFm.c : Ctx (GT tab) (KT tab) (ResT tab laws_eqFm.rs) := { X := XT tab, ty := tyOf tys, inner := fun _ => true, keep := keepOf 0 laws_eqFm.ms, cuts := [], live := liveOf [], G := getG (laws_eqFm.gs _) }
noncomputable def laws_eqFm.b : Code := bodyOf Tryz.f33
noncomputable def laws_eqFm (x0 : Int × Int × Int × (List Int) × (List (Int × (List Int))) × (List Int) × Int × (List Int) × Int × Int × Int × (List Int) × Int × Int × Int × (List Int)) (x1 : Int × Int × Int × (List Int) × (List (Int × (List Int))) × (List Int) × Int × (List Int) × Int × Int × Int × (List Int) × Int × Int × Int × (List Int)) : Option (Bool) := callW laws_eqFm.c (fiOf (GT tab) Tryz.f33 laws_eqFm.ms) laws_eqFm.b (decRes tab laws_eqFm.rs) (encArgs tab laws_eqFm.as (x0, x1))
theorem laws_eqFm.fok : FnOk Tryz.prog 33 Tryz.f33 laws_eqFm.ms laws_eqFm.b := ⟨Tryz.func33, by kernel_rfl, by kernel_rfl⟩
noncomputable def laws_eqFm.fn : Args tab laws_eqFm.as → Option (ResT tab laws_eqFm.rs) := fun x => laws_eqFm x.1 x.2
theorem laws_eqFm.con {δ : Type} : Con Tryz.prog (KT tab) 33 (calleeS (β := δ) tab laws_eqFm.ms laws_eqFm.as laws_eqFm.rs laws_eqFm.fn) := con_shape (c := laws_eqFm.c) mixed tysOk (getG_con (laws_eqFm.gok _)) laws_eqFm.fok rfl rfl (fun _ => rfl)
theorem laws_eqFm.eq (x0 : Int × Int × Int × (List Int) × (List (Int × (List Int))) × (List Int) × Int × (List Int) × Int × Int × Int × (List Int) × Int × Int × Int × (List Int)) (x1 : Int × Int × Int × (List Int) × (List (Int × (List Int))) × (List Int) × Int × (List Int) × Int × Int × Int × (List Int) × Int × Int × Int × (List Int)) : laws_eqFm x0 x1 =
    bif x0.1 != x1.1 then
      some false
    else
      bif x0.2.1 != x1.2.1 then
        some false
      else
        (laws_eqWave (x0.2.2.1, x0.2.2.2.1, x0.2.2.2.2.1) (x1.2.2.1, x1.2.2.2.1, x1.2.2.2.2.1)).bind fun y1 =>
        bif !y1 then
          some false
        else
          (laws_eqIntS x0.2.2.2.2.2.1 x1.2.2.2.2.2.1).bind fun y2 =>
          bif !y2 then
            some false
          else
            (laws_eqBits (x0.2.2.2.2.2.2.1, x0.2.2.2.2.2.2.2.1) (x1.2.2.2.2.2.2.1, x1.2.2.2.2.2.2.2.1)).bind fun y3 =>
            bif !y3 then
              some false
            else
              (laws_eqPacked (x0.2.2.2.2.2.2.2.2.1, x0.2.2.2.2.2.2.2.2.2.1, x0.2.2.2.2.2.2.2.2.2.2.1, x0.2.2.2.2.2.2.2.2.2.2.2.1) (x1.2.2.2.2.2.2.2.2.1, x1.2.2.2.2.2.2.2.2.2.1, x1.2.2.2.2.2.2.2.2.2.2.1, x1.2.2.2.2.2.2.2.2.2.2.2.1)).bind fun y4 =>
              bif !y4 then
                some false
              else
                (laws_eqPacked (x0.2.2.2.2.2.2.2.2.2.2.2.2.1, x0.2.2.2.2.2.2.2.2.2.2.2.2.2.1, x0.2.2.2.2.2.2.2.2.2.2.2.2.2.2.1, x0.2.2.2.2.2.2.2.2.2.2.2.2.2.2.2) (x1.2.2.2.2.2.2.2.2.2.2.2.2.1, x1.2.2.2.2.2.2.2.2.2.2.2.2.2.1, x1.2.2.2.2.2.2.2.2.2.2.2.2.2.2.1, x1.2.2.2.2.2.2.2.2.2.2.2.2.2.2.2)).bind fun y5 =>
                bif !y5 then
                  some false
                else
                  some true := by kernel_rfl

end Go.Ev.W
