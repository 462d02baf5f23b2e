/- What functions of the program come to. -/
import Derived.Test.YtmobcecmjpfpiaaGreatPzT
import Derived.Test.YtmobcecmjpfpiaaGreatEvGrow
import Derived.Test.YtmobcecmjpfpiaaGreatPz1
import Derived.Test.YtmobcecmjpfpiaaGreatPzL
namespace Go.Ev.W
open Go.Ev Go.Proofs
set_option maxRecDepth 100000
set_option linter.unusedVariables false

noncomputable abbrev impl_digits.s : Sg := ⟨[.lend, .lend], [vi, vi], ⟨[vo 3], [none, none]⟩, Tryz.f118⟩
noncomputable def impl_digits.gs (δ : Type) : List (Nat × Callee (GT tab) δ) := []
theorem impl_digits.gok (δ : Type) : AllCon Tryz.prog tab (impl_digits.gs δ) := .nil
noncomputable def impl_digits.c := cx impl_digits.s [] [(3, [0, 5, 6, 7])] false (impl_digits.gs _)
noncomputable def impl_digits (x0 x1 : Int) : Option (List Int) := fnW impl_digits.s impl_digits.c (x0, x1)
theorem impl_digits.fok : FkS impl_digits.s 118 := ⟨Tryz.func118, by kernel_rfl, by kernel_rfl⟩
noncomputable def impl_digits.fn (x : Args tab impl_digits.s.ar) : Option (ResT tab impl_digits.s.rs) := impl_digits x.1 x.2
noncomputable abbrev impl_digits.k {δ : Type} : Callee (GT tab) δ := kS impl_digits.s impl_digits.fn
theorem impl_digits.con {δ : Type} : Con Tryz.prog (KT tab) 118 (impl_digits.k (δ := δ)) := con_shape (c := impl_digits.c) mixed tysOk (getG_con (impl_digits.gok _)) impl_digits.fok rfl rfl fun _ => rfl
noncomputable def impl_digits_l0 (v0 v1 v2 : Int) (v3 : List Int) : Option (List Int) := lpW impl_digits.s impl_digits.c 0 (ud 10 [.int .i64 v0, .undef, .undef, .undef, .undef, .sl 0 0, .int .i64 v1, .int .i64 v2]) [.row 0 true 3 v3] 1
theorem impl_digits.eq (x0 x1 : Int) : impl_digits x0 x1 =
    impl_digits_l0 x0 x1 (0 : Int) ([] : List Int) := by kernel_rfl
theorem impl_digits_l0.eq (v0 v1 v2 : Int) (v3 : List Int) : impl_digits_l0 v0 v1 v2 v3 =
    bif decide (v2 < v1) then
      bif decide ((v3.length + ([IntKind.i64.wrap (((BitVec.ofInt 64 v0) &&& (BitVec.ofInt 64 (1 : Int))).toNat : Int)] : List Int).length) * 8 ≤ 140737488355328) then
        impl_digits_l0 (v0.fdiv (2 ^ 1)) v1 (IntKind.i64.wrap (v2 + (1 : Int))) (v3 ++ ([IntKind.i64.wrap (((BitVec.ofInt 64 v0) &&& (BitVec.ofInt 64 (1 : Int))).toNat : Int)] : List Int))
      else
        none
    else
      some v3 := (Lw_eq tysOk (getG_con (impl_digits.gok _)) _ _).trans (by kernel_rfl)

noncomputable abbrev impl_PackOf.s : Sg := ⟨[.lend, .lend], [vl 3, vi], ⟨[.agg [.int .i64, .int .i64, .int .i64, .sl true true 106], vb], [none, none]⟩, Tryz.f80⟩
noncomputable def impl_PackOf.gs (δ : Type) : List (Nat × Callee (GT tab) δ) := [(64, impl_within.k), (79, impl_bitsOf.k), (109, impl_areAll_int_PackOf_1.k), (118, impl_digits.k)]
theorem impl_PackOf.gok (δ : Type) : AllCon Tryz.prog tab (impl_PackOf.gs δ) := .cons impl_within.con (.cons impl_bitsOf.con (.cons impl_areAll_int_PackOf_1.con (.cons impl_digits.con .nil)))
noncomputable def impl_PackOf.c := cx impl_PackOf.s [3] [(3, [0, 3, 4]), (5, [0, 3, 4, 6, 31, 32, 33])] false (impl_PackOf.gs _)
noncomputable def impl_PackOf (x0 : List Int) (x1 : Int) : Option ((Int × Int × Int × (List Int)) × Bool) := fnW impl_PackOf.s impl_PackOf.c (x0, x1)
theorem impl_PackOf.fok : FkS impl_PackOf.s 80 := ⟨Tryz.func80, by kernel_rfl, by kernel_rfl⟩
noncomputable def impl_PackOf.fn (x : Args tab impl_PackOf.s.ar) : Option (ResT tab impl_PackOf.s.rs) := impl_PackOf x.1 x.2
noncomputable abbrev impl_PackOf.k {δ : Type} : Callee (GT tab) δ := kS impl_PackOf.s impl_PackOf.fn
theorem impl_PackOf.con {δ : Type} : Con Tryz.prog (KT tab) 80 (impl_PackOf.k (δ := δ)) := con_shape (c := impl_PackOf.c) mixed tysOk (getG_con (impl_PackOf.gok _)) impl_PackOf.fok rfl rfl fun _ => rfl
noncomputable def impl_PackOf_l0 (v0 : List Int) (v1 v2 v3 v4 : Int) (v5 : List Int) : Option ((Int × Int × Int × (List Int)) × Bool) := lpW impl_PackOf.s impl_PackOf.c 0 (ud 44 [.vs false 3 v0, .undef, .undef, .ptr 0 0, .ptr 1 0]) [.box 3 [.int .i64 v1], .box 31 [.int .i64 v2, .int .i64 v3, .int .i64 v4, .sl 2 0], .row 0 true 106 v5] 3
noncomputable def impl_PackOf_l1 (v0 v1 : List Int) (v2 v3 v4 v5 v6 v7 : Int) (v8 v9 : List Int) : Option ((Int × Int × Int × (List Int)) × Bool) := lpW impl_PackOf.s impl_PackOf.c 1 (ud 15 [.vs false 3 v0, .undef, .undef, .ptr 0 0, .ptr 1 0, .undef, .sl 3 0, .undef, .undef, .undef, .undef, .undef, .undef, .undef, .undef, .undef, .undef, .undef, .undef, .undef, .undef, .undef, .undef, .undef, .undef, .undef, .undef, .undef, .undef, .undef, .undef, .vs false 3 v1, .int .i64 v2, .int .i64 v3]) [.box 3 [.int .i64 v4], .box 31 [.int .i64 v5, .int .i64 v6, .int .i64 v7, .sl 2 0], .row 0 true 106 v8, .row 0 true 3 v9] 4
theorem impl_PackOf.eq (x0 : List Int) (x1 : Int) : impl_PackOf x0 x1 =
    (impl_within x1 (0 : Int) (32 : Int)).bind fun y1 =>
    bif !y1 then
      some (((0 : Int), (0 : Int), (0 : Int), ([] : List Int)), false)
    else
      bif decide ((x0.length : Int) > (5000 : Int)) then
        some (((0 : Int), (0 : Int), (0 : Int), ([] : List Int)), false)
      else
        bif decide (IntKind.i64.wrap ((x0.length : Int) * x1) > (5000 : Int)) then
          some (((0 : Int), (0 : Int), (0 : Int), ([] : List Int)), false)
        else
          (impl_areAll_int_PackOf_1 x0 x1).bind fun y2 =>
          bif !y2 then
            some (((0 : Int), (0 : Int), (0 : Int), ([] : List Int)), false)
          else
            impl_PackOf_l0 x0 x1 (0 : Int) (0 : Int) (0 : Int) ([] : List Int) := by kernel_rfl
theorem impl_PackOf_l0.eq (v0 : List Int) (v1 v2 v3 v4 : Int) (v5 : List Int) : impl_PackOf_l0 v0 v1 v2 v3 v4 v5 =
    impl_PackOf_l1 v0 v0 (v0.length : Int) (0 : Int) v1 v2 v3 v4 v5 ([] : List Int) := (Lw_eq tysOk (getG_con (impl_PackOf.gok _)) _ _).trans (by kernel_rfl)
theorem impl_PackOf_l1.eq (v0 v1 : List Int) (v2 v3 v4 v5 v6 v7 : Int) (v8 v9 : List Int) : impl_PackOf_l1 v0 v1 v2 v3 v4 v5 v6 v7 v8 v9 =
    bif decide (v3 < v2) then
      (at? v1 v3).bind fun y1 =>
      (impl_digits y1 v4).bind fun y2 =>
      bif decide ((v9.length + y2.length) * 8 ≤ 140737488355328) then
        impl_PackOf_l1 v0 v1 v2 (IntKind.i64.wrap (v3 + (1 : Int))) v4 v5 v6 v7 v8 (v9 ++ y2)
      else
        none
    else
      (impl_bitsOf v9).bind fun y3 =>
      some ((v4, (v0.length : Int), y3.1, y3.2), true) := (Lw_eq tysOk (getG_con (impl_PackOf.gok _)) _ _).trans (by kernel_rfl)

noncomputable abbrev impl_fmOf.s : Sg := ⟨[.lend, .lend], [vl 5, vi], ⟨[.agg [.int .i64, .int .i64, .int .i64, .sl true true 3, .sl true true 29, .sl true true 3, .int .i64, .sl true true 106, .int .i64, .int .i64, .int .i64, .sl true true 106, .int .i64, .int .i64, .int .i64, .sl true true 106]], [none, none]⟩, Tryz.f25⟩
noncomputable def impl_fmOf.gs (δ : Type) : List (Nat × Callee (GT tab) δ) := [(73, impl_bwtOf.k), (75, impl_suffixRows.k), (76, impl_counts.k), (77, impl_WaveOf.k), (78, impl_inverse.k), (79, impl_bitsOf.k), (80, impl_PackOf.k), (81, impl_WidthOf.k)]
theorem impl_fmOf.gok (δ : Type) : AllCon Tryz.prog tab (impl_fmOf.gs δ) := .cons impl_bwtOf.con (.cons impl_suffixRows.con (.cons impl_counts.con (.cons impl_WaveOf.con (.cons impl_inverse.con (.cons impl_bitsOf.con (.cons impl_PackOf.con (.cons impl_WidthOf.con .nil)))))))
noncomputable def impl_fmOf.c := cx impl_fmOf.s [] [(7, [0, 1, 4, 5, 7, 8, 9, 10, 31, 32, 33]), (15, [0, 1, 4, 7, 8, 9, 10, 13, 14])] false (impl_fmOf.gs _)
noncomputable def impl_fmOf (x0 : List Int) (x1 : Int) : Option (Int × Int × Int × (List Int) × (List (Int × (List Int))) × (List Int) × Int × (List Int) × Int × Int × Int × (List Int) × Int × Int × Int × (List Int)) := fnW impl_fmOf.s impl_fmOf.c (x0, x1)
theorem impl_fmOf.fok : FkS impl_fmOf.s 25 := ⟨Tryz.func25, by kernel_rfl, by kernel_rfl⟩
noncomputable def impl_fmOf.fn (x : Args tab impl_fmOf.s.ar) : Option (ResT tab impl_fmOf.s.rs) := impl_fmOf x.1 x.2
noncomputable abbrev impl_fmOf.k {δ : Type} : Callee (GT tab) δ := kS impl_fmOf.s impl_fmOf.fn
theorem impl_fmOf.con {δ : Type} : Con Tryz.prog (KT tab) 25 (impl_fmOf.k (δ := δ)) := con_shape (c := impl_fmOf.c) mixed tysOk (getG_con (impl_fmOf.gok _)) impl_fmOf.fok rfl rfl fun _ => rfl
noncomputable def impl_fmOf_l0 (v0 : List Int) (v1 v2 v3 v4 v5 v6 v7 v8 v9 v10 v11 v12 v13 : Int) (v14 : List Int) (v15 : List (Int × (List Int))) (v16 v17 v18 v19 v20 : List Int) (v21 v22 v23 v24 v25 v26 v27 v28 v29 v30 : Int) (v31 : List Int) (v32 : List (Int × (List Int))) (v33 v34 v35 v36 v37 v38 v39 : List Int) : Option (Int × Int × Int × (List Int) × (List (Int × (List Int))) × (List Int) × Int × (List Int) × Int × Int × Int × (List Int) × Int × Int × Int × (List Int)) := lpW impl_fmOf.s impl_fmOf.c 0 (ud 58 [.vs false 5 v0, .int .i64 v1, .undef, .undef, .ptr 0 0, .sl 7 0, .undef, .ptr 8 0, .sl 15 0, .sl 16 0, .sl 17 0, .undef, .undef, .undef, .undef, .undef, .undef, .undef, .undef, .undef, .undef, .undef, .undef, .undef, .undef, .undef, .undef, .undef, .undef, .undef, .undef, .sl 7 0, .int .i64 v2, .int .i64 v3]) [.box 33 [.int .i64 v4, .int .i64 v5, .int .i64 v6, .sl 1 0, .sl 2 0, .sl 3 0, .int .i64 v7, .sl 4 0, .int .i64 v8, .int .i64 v9, .int .i64 v10, .sl 5 0, .int .i64 v11, .int .i64 v12, .int .i64 v13, .sl 6 0], .row 0 true 3 v14, .row 0 true 29 v15, .row 0 true 3 v16, .row 0 true 106 v17, .row 0 true 106 v18, .row 0 true 106 v19, .row 0 true 3 v20, .box 33 [.int .i64 v21, .int .i64 v22, .int .i64 v23, .sl 9 0, .sl 10 0, .sl 11 0, .int .i64 v24, .sl 12 0, .int .i64 v25, .int .i64 v26, .int .i64 v27, .sl 13 0, .int .i64 v28, .int .i64 v29, .int .i64 v30, .sl 14 0], .row 0 true 3 v31, .row 0 true 29 v32, .row 0 true 3 v33, .row 0 true 106 v34, .row 0 true 106 v35, .row 0 true 106 v36, .row 0 true 3 v37, .row 0 true 3 v38, .row 0 true 3 v39] 18
noncomputable def impl_fmOf_l1 (v0 : List Int) (v1 v2 v3 v4 v5 v6 v7 v8 v9 v10 v11 v12 : Int) (v13 : List Int) (v14 : List (Int × (List Int))) (v15 v16 v17 v18 : List Int) (v19 v20 v21 v22 v23 v24 v25 v26 v27 v28 : Int) (v29 : List Int) (v30 : List (Int × (List Int))) (v31 v32 v33 v34 v35 v36 v37 v38 : List Int) : Option (Int × Int × Int × (List Int) × (List (Int × (List Int))) × (List Int) × Int × (List Int) × Int × Int × Int × (List Int) × Int × Int × Int × (List Int)) := lpW impl_fmOf.s impl_fmOf.c 1 (ud 77 [.vs false 5 v0, .int .i64 v1, .undef, .undef, .ptr 0 0, .undef, .undef, .ptr 7 0, .sl 14 0, .sl 15 0, .sl 16 0, .undef, .undef, .sl 17 0, .int .i64 v2]) [.box 33 [.int .i64 v3, .int .i64 v4, .int .i64 v5, .sl 1 0, .sl 2 0, .sl 3 0, .int .i64 v6, .sl 4 0, .int .i64 v7, .int .i64 v8, .int .i64 v9, .sl 5 0, .int .i64 v10, .int .i64 v11, .int .i64 v12, .sl 6 0], .row 0 true 3 v13, .row 0 true 29 v14, .row 0 true 3 v15, .row 0 true 106 v16, .row 0 true 106 v17, .row 0 true 106 v18, .box 33 [.int .i64 v19, .int .i64 v20, .int .i64 v21, .sl 8 0, .sl 9 0, .sl 10 0, .int .i64 v22, .sl 11 0, .int .i64 v23, .int .i64 v24, .int .i64 v25, .sl 12 0, .int .i64 v26, .int .i64 v27, .int .i64 v28, .sl 13 0], .row 0 true 3 v29, .row 0 true 29 v30, .row 0 true 3 v31, .row 0 true 106 v32, .row 0 true 106 v33, .row 0 true 106 v34, .row 0 true 3 v35, .row 0 true 3 v36, .row 0 true 3 v37, .row 0 true 3 v38] 18
theorem impl_fmOf.eq (x0 : List Int) (x1 : Int) : impl_fmOf x0 x1 =
    (impl_suffixRows x0).bind fun y1 =>
    (impl_bwtOf x0).bind fun y2 =>
    (impl_counts y2).bind fun y3 =>
    (impl_WaveOf y2).bind fun y4 =>
    impl_fmOf_l0 x0 x1 (y1.length : Int) (0 : Int) (0 : Int) (0 : Int) (0 : Int) (0 : Int) (0 : Int) (0 : Int) (0 : Int) (0 : Int) (0 : Int) (0 : Int) ([] : List Int) ([] : List (Int × (List Int))) ([] : List Int) ([] : List Int) ([] : List Int) ([] : List Int) y1 (x0.length : Int) x1 y4.1.1 (0 : Int) (0 : Int) (0 : Int) (0 : Int) (0 : Int) (0 : Int) (0 : Int) y4.1.2.1 y4.1.2.2 y3 ([] : List Int) ([] : List Int) ([] : List Int) ([] : List Int) ([] : List Int) ([] : List Int) := by kernel_rfl
theorem impl_fmOf_l0.eq (v0 : List Int) (v1 v2 v3 v4 v5 v6 v7 v8 v9 v10 v11 v12 v13 : Int) (v14 : List Int) (v15 : List (Int × (List Int))) (v16 v17 v18 v19 v20 : List Int) (v21 v22 v23 v24 v25 v26 v27 v28 v29 v30 : Int) (v31 : List Int) (v32 : List (Int × (List Int))) (v33 v34 v35 v36 v37 v38 v39 : List Int) : impl_fmOf_l0 v0 v1 v2 v3 v4 v5 v6 v7 v8 v9 v10 v11 v12 v13 v14 v15 v16 v17 v18 v19 v20 v21 v22 v23 v24 v25 v26 v27 v28 v29 v30 v31 v32 v33 v34 v35 v36 v37 v38 v39 =
    bif decide (v3 < v2) then
      (at? v20 v3).bind fun y1 =>
      v20[v3.toNat]?.bind fun y2 =>
      bif decide (v1 = (0 : Int)) then
        none
      else
        bif y2.tmod v1 == (0 : Int) then
          bif decide ((v37.length + ([(1 : Int)] : List Int).length) * 8 ≤ 140737488355328) then
            bif decide (v1 = (0 : Int)) then
              none
            else
              bif decide ((v38.length + ([IntKind.i64.wrap (y2.tdiv v1)] : List Int).length) * 8 ≤ 140737488355328) then
                impl_fmOf_l0 v0 v1 v2 (IntKind.i64.wrap (v3 + (1 : Int))) v4 v5 v6 v7 v8 v9 v10 v11 v12 v13 v14 v15 v16 v17 v18 v19 v20 v21 v22 v23 v24 v25 v26 v27 v28 v29 v30 v31 v32 v33 v34 v35 v36 (v37 ++ ([(1 : Int)] : List Int)) (v38 ++ ([IntKind.i64.wrap (y2.tdiv v1)] : List Int)) v39
              else
                none
          else
            none
        else
          bif decide ((v37.length + ([(0 : Int)] : List Int).length) * 8 ≤ 140737488355328) then
            impl_fmOf_l0 v0 v1 v2 (IntKind.i64.wrap (v3 + (1 : Int))) v4 v5 v6 v7 v8 v9 v10 v11 v12 v13 v14 v15 v16 v17 v18 v19 v20 v21 v22 v23 v24 v25 v26 v27 v28 v29 v30 v31 v32 v33 v34 v35 v36 (v37 ++ ([(0 : Int)] : List Int)) v38 v39
          else
            none
    else
      (impl_inverse v20).bind fun y3 =>
      impl_fmOf_l1 v0 v1 (0 : Int) v4 v5 v6 v7 v8 v9 v10 v11 v12 v13 v14 v15 v16 v17 v18 v19 v21 v22 v23 v24 v25 v26 v27 v28 v29 v30 v31 v32 v33 v34 v35 v36 v37 v38 v39 y3 := (Lw_eq tysOk (getG_con (impl_fmOf.gok _)) _ _).trans (by kernel_rfl)
theorem impl_fmOf_l1.eq (v0 : List Int) (v1 v2 v3 v4 v5 v6 v7 v8 v9 v10 v11 v12 : Int) (v13 : List Int) (v14 : List (Int × (List Int))) (v15 v16 v17 v18 : List Int) (v19 v20 v21 v22 v23 v24 v25 v26 v27 v28 : Int) (v29 : List Int) (v30 : List (Int × (List Int))) (v31 v32 v33 v34 v35 v36 v37 v38 : List Int) : impl_fmOf_l1 v0 v1 v2 v3 v4 v5 v6 v7 v8 v9 v10 v11 v12 v13 v14 v15 v16 v17 v18 v19 v20 v21 v22 v23 v24 v25 v26 v27 v28 v29 v30 v31 v32 v33 v34 v35 v36 v37 v38 =
    bif decide (v2 ≤ (v0.length : Int)) then
      (at? v38 v2).bind fun y1 =>
      v38[v2.toNat]?.bind fun y2 =>
      bif decide ((v37.length + ([y2] : List Int).length) * 8 ≤ 140737488355328) then
        impl_fmOf_l1 v0 v1 (IntKind.i64.wrap (v2 + v1)) v3 v4 v5 v6 v7 v8 v9 v10 v11 v12 v13 v14 v15 v16 v17 v18 v19 v20 v21 v22 v23 v24 v25 v26 v27 v28 v29 v30 v31 v32 v33 v34 v35 v36 (v37 ++ ([y2] : List Int)) v38
      else
        none
    else
      (impl_bitsOf v35).bind fun y3 =>
      (impl_WidthOf (v0.length : Int)).bind fun y4 =>
      (impl_PackOf v36 y4).bind fun y5 =>
      (impl_WidthOf (v0.length : Int)).bind fun y6 =>
      (impl_PackOf v37 y6).bind fun y7 =>
      some (v19, v20, v21, v29, v30, v31, y3.1, y3.2, y5.1.1, y5.1.2.1, y5.1.2.2.1, y5.1.2.2.2, y7.1.1, y7.1.2.1, y7.1.2.2.1, y7.1.2.2.2) := (Lw_eq tysOk (getG_con (impl_fmOf.gok _)) _ _).trans (by kernel_rfl)

noncomputable abbrev impl_bitsBytes.s : Sg := ⟨[.lend], [.agg [.int .i64, .sl false false 106]], ⟨[vo 5], [none]⟩, Tryz.f84⟩
noncomputable def impl_bitsBytes.gs (δ : Type) : List (Nat × Callee (GT tab) δ) := [(65, impl_VarOf.k)]
theorem impl_bitsBytes.gok (δ : Type) : AllCon Tryz.prog tab (impl_bitsBytes.gs δ) := .cons impl_VarOf.con .nil
noncomputable def impl_bitsBytes.c := cx impl_bitsBytes.s [] [(3, [1, 3, 4])] false (impl_bitsBytes.gs _)
noncomputable def impl_bitsBytes (x0 : Int × (List Int)) : Option (List Int) := fnW impl_bitsBytes.s impl_bitsBytes.c x0
theorem impl_bitsBytes.fok : FkS impl_bitsBytes.s 84 := ⟨Tryz.func84, by kernel_rfl, by kernel_rfl⟩
noncomputable def impl_bitsBytes.fn (x : Args tab impl_bitsBytes.s.ar) : Option (ResT tab impl_bitsBytes.s.rs) := impl_bitsBytes x
noncomputable abbrev impl_bitsBytes.k {δ : Type} : Callee (GT tab) δ := kS impl_bitsBytes.s impl_bitsBytes.fn
theorem impl_bitsBytes.con {δ : Type} : Con Tryz.prog (KT tab) 84 (impl_bitsBytes.k (δ := δ)) := con_shape (c := impl_bitsBytes.c) mixed tysOk (getG_con (impl_bitsBytes.gok _)) impl_bitsBytes.fok rfl rfl fun _ => rfl
noncomputable def impl_bitsBytes_l0 (v0 v1 : Int) (v2 v3 : List Int) : Option (List Int) := lpW impl_bitsBytes.s impl_bitsBytes.c 0 (ud 23 [.undef, .ptr 0 0, .undef, .sl 1 0, .int .i64 v0]) [.box 29 [.int .i64 v1, .vs false 106 v2], .row 0 true 5 v3] 2
theorem impl_bitsBytes.eq (x0 : Int × (List Int)) : impl_bitsBytes x0 =
    (impl_VarOf x0.1).bind fun y1 =>
    impl_bitsBytes_l0 (0 : Int) x0.1 x0.2 y1 := by kernel_rfl
theorem impl_bitsBytes_l0.eq (v0 v1 : Int) (v2 v3 : List Int) : impl_bitsBytes_l0 v0 v1 v2 v3 =
    bif decide (v0 < v1) then
      (at? v2 (IntKind.i64.wrap (v0.tdiv (64 : Int)))).bind fun y1 =>
      bif decide (v0.tmod (64 : Int) < (0 : Int)) then
        none
      else
        bif decide ((v3.length + ([IntKind.u8.wrap (y1.fdiv (2 ^ (min (v0.tmod (64 : Int)).toNat 64)))] : List Int).length) * 1 ≤ 140737488355328) then
          impl_bitsBytes_l0 (IntKind.i64.wrap (v0 + (8 : Int))) v1 v2 (v3 ++ ([IntKind.u8.wrap (y1.fdiv (2 ^ (min (v0.tmod (64 : Int)).toNat 64)))] : List Int))
        else
          none
    else
      some v3 := (Lw_eq tysOk (getG_con (impl_bitsBytes.gok _)) _ _).trans (by kernel_rfl)

noncomputable abbrev impl_waveBytes.s : Sg := ⟨[.lend], [.agg [.int .i64, .sl false false 3, .sl false false 29]], ⟨[vo 5], [none]⟩, Tryz.f83⟩
noncomputable def impl_waveBytes.gs (δ : Type) : List (Nat × Callee (GT tab) δ) := [(84, impl_bitsBytes.k)]
theorem impl_waveBytes.gok (δ : Type) : AllCon Tryz.prog tab (impl_waveBytes.gs δ) := .cons impl_bitsBytes.con .nil
noncomputable def impl_waveBytes.c := cx impl_waveBytes.s [] [(3, [3, 7, 8, 9])] false (impl_waveBytes.gs _)
noncomputable def impl_waveBytes (x0 : Int × (List Int) × (List (Int × (List Int)))) : Option (List Int) := fnW impl_waveBytes.s impl_waveBytes.c x0
theorem impl_waveBytes.fok : FkS impl_waveBytes.s 83 := ⟨Tryz.func83, by kernel_rfl, by kernel_rfl⟩
noncomputable def impl_waveBytes.fn (x : Args tab impl_waveBytes.s.ar) : Option (ResT tab impl_waveBytes.s.rs) := impl_waveBytes x
noncomputable abbrev impl_waveBytes.k {δ : Type} : Callee (GT tab) δ := kS impl_waveBytes.s impl_waveBytes.fn
theorem impl_waveBytes.con {δ : Type} : Con Tryz.prog (KT tab) 83 (impl_waveBytes.k (δ := δ)) := con_shape (c := impl_waveBytes.c) mixed tysOk (getG_con (impl_waveBytes.gok _)) impl_waveBytes.fok rfl rfl fun _ => rfl
noncomputable def impl_waveBytes_l0 (v0 : List (Int × (List Int))) (v1 v2 : Int) (v3 : List Int) : Option (List Int) := lpW impl_waveBytes.s impl_waveBytes.c 0 (ud 9 [.undef, .undef, .undef, .sl 0 0, .undef, .undef, .undef, .vs false 29 v0, .int .i64 v1, .int .i64 v2]) [.row 0 true 5 v3] 1
theorem impl_waveBytes.eq (x0 : Int × (List Int) × (List (Int × (List Int)))) : impl_waveBytes x0 =
    impl_waveBytes_l0 x0.2.2 (x0.2.2.length : Int) (0 : Int) ([] : List Int) := by kernel_rfl
theorem impl_waveBytes_l0.eq (v0 : List (Int × (List Int))) (v1 v2 : Int) (v3 : List Int) : impl_waveBytes_l0 v0 v1 v2 v3 =
    bif decide (v2 < v1) then
      (at? v0 v2).bind fun y1 =>
      (impl_bitsBytes y1).bind fun y2 =>
      bif decide ((v3.length + y2.length) * 1 ≤ 140737488355328) then
        impl_waveBytes_l0 v0 v1 (IntKind.i64.wrap (v2 + (1 : Int))) (v3 ++ y2)
      else
        none
    else
      some v3 := (Lw_eq tysOk (getG_con (impl_waveBytes.gok _)) _ _).trans (by kernel_rfl)

noncomputable abbrev impl_PackOk.s : Sg := ⟨[.lend], [.agg [.int .i64, .int .i64, .int .i64, .sl false false 106]], ⟨[vb], [none]⟩, Tryz.f121⟩
noncomputable def impl_PackOk.gs (δ : Type) : List (Nat × Callee (GT tab) δ) := [(64, impl_within.k), (107, impl_BitsOk.k)]
theorem impl_PackOk.gok (δ : Type) : AllCon Tryz.prog tab (impl_PackOk.gs δ) := .cons impl_within.con (.cons impl_BitsOk.con .nil)
noncomputable def impl_PackOk.c := cx impl_PackOk.s [] [] false (impl_PackOk.gs _)
noncomputable def impl_PackOk (x0 : Int × Int × Int × (List Int)) : Option (Bool) := fnW impl_PackOk.s impl_PackOk.c x0
theorem impl_PackOk.fok : FkS impl_PackOk.s 121 := ⟨Tryz.func121, by kernel_rfl, by kernel_rfl⟩
noncomputable def impl_PackOk.fn (x : Args tab impl_PackOk.s.ar) : Option (ResT tab impl_PackOk.s.rs) := impl_PackOk x
noncomputable abbrev impl_PackOk.k {δ : Type} : Callee (GT tab) δ := kS impl_PackOk.s impl_PackOk.fn
theorem impl_PackOk.con {δ : Type} : Con Tryz.prog (KT tab) 121 (impl_PackOk.k (δ := δ)) := con_shape (c := impl_PackOk.c) mixed tysOk (getG_con (impl_PackOk.gok _)) impl_PackOk.fok rfl rfl fun _ => rfl
theorem impl_PackOk.eq (x0 : Int × Int × Int × (List Int)) : impl_PackOk x0 =
    (impl_within x0.1 (0 : Int) (32 : Int)).bind fun y1 =>
    bif y1 then
      (impl_within x0.2.1 (0 : Int) (5000 : Int)).bind fun y2 =>
      bif y2 then
        (impl_BitsOk x0.2.2).bind fun y3 =>
        bif y3 then
          some (x0.2.2.1 == IntKind.i64.wrap (x0.2.1 * x0.1))
        else
          some false
      else
        some false
    else
      some false := by kernel_rfl

/-! ### slices_Grow_byte_byte: slices.Grow[[]byte,byte] (by hand) -/
def slices_Grow_byte_byte.ms : List Mode := [.give, .lend]
def slices_Grow_byte_byte.as : List VSh := [.one (.b (.b (.b (.b (.sl true true 5))))), .one (.b (.b (.b (.b (.int .i64)))))]
def slices_Grow_byte_byte.rs : RSh := ⟨[.one (.b (.b (.b (.b (.sl true true 5)))))], [none, none]⟩
noncomputable def slices_Grow_byte_byte (x0 : List Int) (x1 : Int) : Option (List Int) := growF 1 (x0, x1)
noncomputable def slices_Grow_byte_byte.fn : Args tab slices_Grow_byte_byte.as → Option (ResT tab slices_Grow_byte_byte.rs) := fun x => slices_Grow_byte_byte x.1 x.2
noncomputable abbrev slices_Grow_byte_byte.k {δ : Type} : Callee (GT tab) δ := calleeS tab slices_Grow_byte_byte.ms slices_Grow_byte_byte.as slices_Grow_byte_byte.rs slices_Grow_byte_byte.fn
theorem slices_Grow_byte_byte.con {δ : Type} : Con Tryz.prog (KT tab) 120 (slices_Grow_byte_byte.k (δ := δ)) := con_grow2 Tryz.laysGrow120 rfl rfl (ty := tyOf tys) tysOk (e := 5) rfl (by decide) rfl rfl

noncomputable abbrev slices_Concat_byte_byte.s : Sg := ⟨[.lend], [vl 22], ⟨[vo 5], [none]⟩, Tryz.f82⟩
noncomputable def slices_Concat_byte_byte.gs (δ : Type) : List (Nat × Callee (GT tab) δ) := [(120, slices_Grow_byte_byte.k)]
theorem slices_Concat_byte_byte.gok (δ : Type) : AllCon Tryz.prog tab (slices_Concat_byte_byte.gs δ) := .cons slices_Grow_byte_byte.con .nil
noncomputable def slices_Concat_byte_byte.c := cx slices_Concat_byte_byte.s [] [(3, [0, 3, 9, 10, 11]), (11, [6, 25, 26, 27])] false (slices_Concat_byte_byte.gs _)
noncomputable def slices_Concat_byte_byte (x0 : List (List Int)) : Option (List Int) := fnW slices_Concat_byte_byte.s slices_Concat_byte_byte.c x0
theorem slices_Concat_byte_byte.fok : FkS slices_Concat_byte_byte.s 82 := ⟨Tryz.func82, by kernel_rfl, by kernel_rfl⟩
noncomputable def slices_Concat_byte_byte.fn (x : Args tab slices_Concat_byte_byte.s.ar) : Option (ResT tab slices_Concat_byte_byte.s.rs) := slices_Concat_byte_byte x
noncomputable abbrev slices_Concat_byte_byte.k {δ : Type} : Callee (GT tab) δ := kS slices_Concat_byte_byte.s slices_Concat_byte_byte.fn
theorem slices_Concat_byte_byte.con {δ : Type} : Con Tryz.prog (KT tab) 82 (slices_Concat_byte_byte.k (δ := δ)) := con_shape (c := slices_Concat_byte_byte.c) mixed tysOk (getG_con (slices_Concat_byte_byte.gok _)) slices_Concat_byte_byte.fok rfl rfl fun _ => rfl
noncomputable def slices_Concat_byte_byte_l0 (v0 : List (List Int)) (v1 : Int) (v2 : List (List Int)) (v3 v4 : Int) : Option (List Int) := lpW slices_Concat_byte_byte.s slices_Concat_byte_byte.c 0 (ud 24 [.vs false 22 v0, .undef, .undef, .int .i64 v1, .undef, .undef, .undef, .undef, .undef, .vs false 22 v2, .int .i64 v3, .int .i64 v4]) [] 0
noncomputable def slices_Concat_byte_byte_l1 (v0 : List (List Int)) (v1 v2 : Int) (v3 : List Int) : Option (List Int) := lpW slices_Concat_byte_byte.s slices_Concat_byte_byte.c 1 (ud 8 [.undef, .undef, .undef, .undef, .undef, .undef, .sl 0 0, .undef, .undef, .undef, .undef, .undef, .undef, .undef, .undef, .undef, .undef, .undef, .undef, .undef, .undef, .undef, .undef, .undef, .undef, .vs false 22 v0, .int .i64 v1, .int .i64 v2]) [.row 0 true 5 v3] 1
theorem slices_Concat_byte_byte.eq (x0 : List (List Int)) : slices_Concat_byte_byte x0 =
    slices_Concat_byte_byte_l0 x0 (0 : Int) x0 (x0.length : Int) (0 : Int) := by kernel_rfl
theorem slices_Concat_byte_byte_l0.eq (v0 : List (List Int)) (v1 : Int) (v2 : List (List Int)) (v3 v4 : Int) : slices_Concat_byte_byte_l0 v0 v1 v2 v3 v4 =
    bif decide (v4 < v3) then
      (at? v2 v4).bind fun y1 =>
      bif decide (IntKind.i64.wrap (v1 + (y1.length : Int)) < (0 : Int)) then
        none
      else
        slices_Concat_byte_byte_l0 v0 (IntKind.i64.wrap (v1 + (y1.length : Int))) v2 v3 (IntKind.i64.wrap (v4 + (1 : Int)))
    else
      (slices_Grow_byte_byte ([] : List Int) v1).bind fun y2 =>
      slices_Concat_byte_byte_l1 v0 (v0.length : Int) (0 : Int) y2 := (Lw_eq tysOk (getG_con (slices_Concat_byte_byte.gok _)) _ _).trans (by kernel_rfl)
theorem slices_Concat_byte_byte_l1.eq (v0 : List (List Int)) (v1 v2 : Int) (v3 : List Int) : slices_Concat_byte_byte_l1 v0 v1 v2 v3 =
    bif decide (v2 < v1) then
      (at? v0 v2).bind fun y1 =>
      bif decide ((v3.length + y1.length) * 1 ≤ 140737488355328) then
        slices_Concat_byte_byte_l1 v0 v1 (IntKind.i64.wrap (v2 + (1 : Int))) (v3 ++ y1)
      else
        none
    else
      some v3 := (Lw_eq tysOk (getG_con (slices_Concat_byte_byte.gok _)) _ _).trans (by kernel_rfl)

noncomputable abbrev impl_PackBytes.s : Sg := ⟨[.lend], [.agg [.int .i64, .int .i64, .int .i64, .sl false false 106]], ⟨[vo 5], [none]⟩, Tryz.f85⟩
noncomputable def impl_PackBytes.gs (δ : Type) : List (Nat × Callee (GT tab) δ) := [(65, impl_VarOf.k), (82, slices_Concat_byte_byte.k), (84, impl_bitsBytes.k), (121, impl_PackOk.k)]
theorem impl_PackBytes.gok (δ : Type) : AllCon Tryz.prog tab (impl_PackBytes.gs δ) := .cons impl_VarOf.con (.cons slices_Concat_byte_byte.con (.cons impl_bitsBytes.con (.cons impl_PackOk.con .nil)))
noncomputable def impl_PackBytes.c := cx impl_PackBytes.s [] [] false (impl_PackBytes.gs _)
noncomputable def impl_PackBytes (x0 : Int × Int × Int × (List Int)) : Option (List Int) := fnW impl_PackBytes.s impl_PackBytes.c x0
theorem impl_PackBytes.fok : FkS impl_PackBytes.s 85 := ⟨Tryz.func85, by kernel_rfl, by kernel_rfl⟩
noncomputable def impl_PackBytes.fn (x : Args tab impl_PackBytes.s.ar) : Option (ResT tab impl_PackBytes.s.rs) := impl_PackBytes x
noncomputable abbrev impl_PackBytes.k {δ : Type} : Callee (GT tab) δ := kS impl_PackBytes.s impl_PackBytes.fn
theorem impl_PackBytes.con {δ : Type} : Con Tryz.prog (KT tab) 85 (impl_PackBytes.k (δ := δ)) := con_shape (c := impl_PackBytes.c) mixed tysOk (getG_con (impl_PackBytes.gok _)) impl_PackBytes.fok rfl rfl fun _ => rfl
theorem impl_PackBytes.eq (x0 : Int × Int × Int × (List Int)) : impl_PackBytes x0 =
    (impl_PackOk x0).bind fun y1 =>
    bif !y1 then
      some ([] : List Int)
    else
      (impl_VarOf x0.1).bind fun y2 =>
      (impl_VarOf x0.2.1).bind fun y3 =>
      (impl_bitsBytes x0.2.2).bind fun y4 =>
      (slices_Concat_byte_byte ([y2, y3, y4] : List (List Int))).bind fun y5 =>
      some y5 := by kernel_rfl

noncomputable abbrev impl_fmBytes.s : Sg := ⟨[.lend], [.agg [.int .i64, .int .i64, .int .i64, .sl false false 3, .sl false false 29, .sl false false 3, .int .i64, .sl false false 106, .int .i64, .int .i64, .int .i64, .sl false false 106, .int .i64, .int .i64, .int .i64, .sl false false 106]], ⟨[vo 5], [none]⟩, Tryz.f27⟩
noncomputable def impl_fmBytes.gs (δ : Type) : List (Nat × Callee (GT tab) δ) := [(65, impl_VarOf.k), (82, slices_Concat_byte_byte.k), (83, impl_waveBytes.k), (84, impl_bitsBytes.k), (85, impl_PackBytes.k), (86, impl_FrameOf.k)]
theorem impl_fmBytes.gok (δ : Type) : AllCon Tryz.prog tab (impl_fmBytes.gs δ) := .cons impl_VarOf.con (.cons slices_Concat_byte_byte.con (.cons impl_waveBytes.con (.cons impl_bitsBytes.con (.cons impl_PackBytes.con (.cons impl_FrameOf.con .nil)))))
noncomputable def impl_fmBytes.c := cx impl_fmBytes.s [] [] false (impl_fmBytes.gs _)
noncomputable def impl_fmBytes (x0 : Int × Int × Int × (List Int) × (List (Int × (List Int))) × (List Int) × Int × (List Int) × Int × Int × Int × (List Int) × Int × Int × Int × (List Int)) : Option (List Int) := fnW impl_fmBytes.s impl_fmBytes.c x0
theorem impl_fmBytes.fok : FkS impl_fmBytes.s 27 := ⟨Tryz.func27, by kernel_rfl, by kernel_rfl⟩
noncomputable def impl_fmBytes.fn (x : Args tab impl_fmBytes.s.ar) : Option (ResT tab impl_fmBytes.s.rs) := impl_fmBytes x
noncomputable abbrev impl_fmBytes.k {δ : Type} : Callee (GT tab) δ := kS impl_fmBytes.s impl_fmBytes.fn
theorem impl_fmBytes.con {δ : Type} : Con Tryz.prog (KT tab) 27 (impl_fmBytes.k (δ := δ)) := con_shape (c := impl_fmBytes.c) mixed tysOk (getG_con (impl_fmBytes.gok _)) impl_fmBytes.fok rfl rfl fun _ => rfl
theorem impl_fmBytes.eq (x0 : Int × Int × Int × (List Int) × (List (Int × (List Int))) × (List Int) × Int × (List Int) × Int × Int × Int × (List Int) × Int × Int × Int × (List Int)) : impl_fmBytes x0 =
    (impl_VarOf x0.2.1).bind fun y1 =>
    (impl_waveBytes (x0.2.2.1, x0.2.2.2.1, x0.2.2.2.2.1)).bind fun y2 =>
    (impl_bitsBytes (x0.2.2.2.2.2.2.1, x0.2.2.2.2.2.2.2.1)).bind fun y3 =>
    (impl_PackBytes (x0.2.2.2.2.2.2.2.2.1, x0.2.2.2.2.2.2.2.2.2.1, x0.2.2.2.2.2.2.2.2.2.2.1, x0.2.2.2.2.2.2.2.2.2.2.2.1)).bind fun y4 =>
    (impl_PackBytes x0.2.2.2.2.2.2.2.2.2.2.2.2).bind fun y5 =>
    (slices_Concat_byte_byte ([y1, y2, y3, y4, y5] : List (List Int))).bind fun y6 =>
    (impl_FrameOf ((1 : Int), y6)).bind fun y7 =>
    some y7 := by kernel_rfl

noncomputable abbrev impl_FmRead.s : Sg := ⟨[.lend], [vl 5], ⟨[.agg [.int .i64, .int .i64, .int .i64, .sl true true 3, .sl true true 29, .sl true true 3, .int .i64, .sl true true 106, .int .i64, .int .i64, .int .i64, .sl true true 106, .int .i64, .int .i64, .int .i64, .sl true true 106], vb], [none]⟩, Tryz.f6⟩
noncomputable def impl_FmRead.gs (δ : Type) : List (Nat × Callee (GT tab) δ) := [(19, impl_frameOnly.k), (20, impl_VarRead.k), (21, impl_isRate.k), (22, impl_WaveRead.k), (23, impl_BwtText.k), (24, impl_WaveList.k), (25, impl_fmOf.k), (26, bytes_Equal.k), (27, impl_fmBytes.k)]
theorem impl_FmRead.gok (δ : Type) : AllCon Tryz.prog tab (impl_FmRead.gs δ) := .cons impl_frameOnly.con (.cons impl_VarRead.con (.cons impl_isRate.con (.cons impl_WaveRead.con (.cons impl_BwtText.con (.cons impl_WaveList.con (.cons impl_fmOf.con (.cons bytes_Equal.con (.cons impl_fmBytes.con .nil))))))))
noncomputable def impl_FmRead.c := cx impl_FmRead.s [5] [(5, [0, 2, 4, 6, 7])] false (impl_FmRead.gs _)
noncomputable def impl_FmRead (x0 : List Int) : Option ((Int × Int × Int × (List Int) × (List (Int × (List Int))) × (List Int) × Int × (List Int) × Int × Int × Int × (List Int) × Int × Int × Int × (List Int)) × Bool) := fnW impl_FmRead.s impl_FmRead.c x0
theorem impl_FmRead.fok : FkS impl_FmRead.s 6 := ⟨Tryz.func6, by kernel_rfl, by kernel_rfl⟩
noncomputable def impl_FmRead.fn (x : Args tab impl_FmRead.s.ar) : Option (ResT tab impl_FmRead.s.rs) := impl_FmRead x
noncomputable abbrev impl_FmRead.k {δ : Type} : Callee (GT tab) δ := kS impl_FmRead.s impl_FmRead.fn
theorem impl_FmRead.con {δ : Type} : Con Tryz.prog (KT tab) 6 (impl_FmRead.k (δ := δ)) := con_shape (c := impl_FmRead.c) mixed tysOk (getG_con (impl_FmRead.gok _)) impl_FmRead.fok rfl rfl fun _ => rfl
noncomputable def impl_FmRead_l0 (v0 : List Int) (v1 v2 v3 v4 v5 v6 v7 v8 v9 v10 v11 v12 : Int) (v13 : List Int) (v14 : List (Int × (List Int))) (v15 v16 v17 v18 v19 : List Int) : Option ((Int × Int × Int × (List Int) × (List (Int × (List Int))) × (List Int) × Int × (List Int) × Int × Int × Int × (List Int) × Int × Int × Int × (List Int)) × Bool) := lpW impl_FmRead.s impl_FmRead.c 0 (ud 58 [.vs false 5 v0, .undef, .ptr 0 0, .undef, .sl 7 0, .undef, .int .i64 v1, .int .i64 v2]) [.box 33 [.int .i64 v3, .int .i64 v4, .int .i64 v5, .sl 1 0, .sl 2 0, .sl 3 0, .int .i64 v6, .sl 4 0, .int .i64 v7, .int .i64 v8, .int .i64 v9, .sl 5 0, .int .i64 v10, .int .i64 v11, .int .i64 v12, .sl 6 0], .row 0 true 3 v13, .row 0 true 29 v14, .row 0 true 3 v15, .row 0 true 106 v16, .row 0 true 106 v17, .row 0 true 106 v18, .row 0 true 5 v19] 8
theorem impl_FmRead.eq (x0 : List Int) : impl_FmRead x0 =
    (impl_frameOnly x0 (1 : Int)).bind fun y1 =>
    (impl_VarRead y1.1 (0 : Int)).bind fun y2 =>
    bif !y1.2 then
      some (((0 : Int), (0 : Int), (0 : Int), ([] : List Int), ([] : List (Int × (List Int))), ([] : List Int), (0 : Int), ([] : List Int), (0 : Int), (0 : Int), (0 : Int), ([] : List Int), (0 : Int), (0 : Int), (0 : Int), ([] : List Int)), false)
    else
      bif !y2.2.2 then
        some (((0 : Int), (0 : Int), (0 : Int), ([] : List Int), ([] : List (Int × (List Int))), ([] : List Int), (0 : Int), ([] : List Int), (0 : Int), (0 : Int), (0 : Int), ([] : List Int), (0 : Int), (0 : Int), (0 : Int), ([] : List Int)), false)
      else
        (impl_isRate y2.1).bind fun y3 =>
        bif !y3 then
          some (((0 : Int), (0 : Int), (0 : Int), ([] : List Int), ([] : List (Int × (List Int))), ([] : List Int), (0 : Int), ([] : List Int), (0 : Int), (0 : Int), (0 : Int), ([] : List Int), (0 : Int), (0 : Int), (0 : Int), ([] : List Int)), false)
        else
          impl_FmRead_l0 x0 y2.1 y2.2.1 (0 : Int) (0 : Int) (0 : Int) (0 : Int) (0 : Int) (0 : Int) (0 : Int) (0 : Int) (0 : Int) (0 : Int) ([] : List Int) ([] : List (Int × (List Int))) ([] : List Int) ([] : List Int) ([] : List Int) ([] : List Int) y1.1 := by kernel_rfl
theorem impl_FmRead_l0.eq (v0 : List Int) (v1 v2 v3 v4 v5 v6 v7 v8 v9 v10 v11 v12 : Int) (v13 : List Int) (v14 : List (Int × (List Int))) (v15 v16 v17 v18 v19 : List Int) : impl_FmRead_l0 v0 v1 v2 v3 v4 v5 v6 v7 v8 v9 v10 v11 v12 v13 v14 v15 v16 v17 v18 v19 =
    (impl_WaveRead v19 v2).bind fun y1 =>
    bif !y1.2.2 then
      some (((0 : Int), (0 : Int), (0 : Int), ([] : List Int), ([] : List (Int × (List Int))), ([] : List Int), (0 : Int), ([] : List Int), (0 : Int), (0 : Int), (0 : Int), ([] : List Int), (0 : Int), (0 : Int), (0 : Int), ([] : List Int)), false)
    else
      (impl_WaveList y1.1).bind fun y2 =>
      (impl_BwtText y2).bind fun y3 =>
      bif !y3.2 then
        some (((0 : Int), (0 : Int), (0 : Int), ([] : List Int), ([] : List (Int × (List Int))), ([] : List Int), (0 : Int), ([] : List Int), (0 : Int), (0 : Int), (0 : Int), ([] : List Int), (0 : Int), (0 : Int), (0 : Int), ([] : List Int)), false)
      else
        (impl_fmOf y3.1 v1).bind fun y4 =>
        (impl_fmBytes y4).bind fun y5 =>
        (bytes_Equal y5 v0).bind fun y6 =>
        bif !y6 then
          some (((0 : Int), (0 : Int), (0 : Int), ([] : List Int), ([] : List (Int × (List Int))), ([] : List Int), (0 : Int), ([] : List Int), (0 : Int), (0 : Int), (0 : Int), ([] : List Int), (0 : Int), (0 : Int), (0 : Int), ([] : List Int)), false)
        else
          some (y4, true) := (Lw_eq tysOk (getG_con (impl_FmRead.gok _)) _ _).trans (by kernel_rfl)

noncomputable abbrev laws_eqIntS.s : Sg := ⟨[.lend, .lend], [vl 3, vl 3], ⟨[vb], [none, none]⟩, Tryz.f29⟩
noncomputable def laws_eqIntS.gs (δ : Type) : List (Nat × Callee (GT tab) δ) := []
theorem laws_eqIntS.gok (δ : Type) : AllCon Tryz.prog tab (laws_eqIntS.gs δ) := .nil
noncomputable def laws_eqIntS.c := cx laws_eqIntS.s [] [(4, [0, 1, 5])] false (laws_eqIntS.gs _)
noncomputable def laws_eqIntS (x0 x1 : List Int) : Option (Bool) := fnW laws_eqIntS.s laws_eqIntS.c (x0, x1)
theorem laws_eqIntS.fok : FkS laws_eqIntS.s 29 := ⟨Tryz.func29, by kernel_rfl, by kernel_rfl⟩
noncomputable def laws_eqIntS.fn (x : Args tab laws_eqIntS.s.ar) : Option (ResT tab laws_eqIntS.s.rs) := laws_eqIntS x.1 x.2
noncomputable abbrev laws_eqIntS.k {δ : Type} : Callee (GT tab) δ := kS laws_eqIntS.s laws_eqIntS.fn
theorem laws_eqIntS.con {δ : Type} : Con Tryz.prog (KT tab) 29 (laws_eqIntS.k (δ := δ)) := con_shape (c := laws_eqIntS.c) mixed tysOk (getG_con (laws_eqIntS.gok _)) laws_eqIntS.fok rfl rfl fun _ => rfl
noncomputable def laws_eqIntS_l0 (v0 v1 : List Int) (v2 : Int) : Option (Bool) := lpW laws_eqIntS.s laws_eqIntS.c 0 (ud 20 [.vs false 3 v0, .vs false 3 v1, .undef, .undef, .undef, .int .i64 v2]) [] 0
theorem laws_eqIntS.eq (x0 x1 : List Int) : laws_eqIntS x0 x1 =
    bif (x0.length : Int) != (x1.length : Int) then
      some false
    else
      laws_eqIntS_l0 x0 x1 (0 : Int) := by kernel_rfl
theorem laws_eqIntS_l0.eq (v0 v1 : List Int) (v2 : Int) : laws_eqIntS_l0 v0 v1 v2 =
    bif decide (v2 < (v0.length : Int)) then
      (at? v0 v2).bind fun y1 =>
      (at? v1 v2).bind fun y2 =>
      bif y1 != y2 then
        some false
      else
        laws_eqIntS_l0 v0 v1 (IntKind.i64.wrap (v2 + (1 : Int)))
    else
      some true := (Lw_eq tysOk (getG_con (laws_eqIntS.gok _)) _ _).trans (by kernel_rfl)

noncomputable abbrev laws_eqUint64S.s : Sg := ⟨[.lend, .lend], [vl 106, vl 106], ⟨[vb], [none, none]⟩, Tryz.f88⟩
noncomputable def laws_eqUint64S.gs (δ : Type) : List (Nat × Callee (GT tab) δ) := []
theorem laws_eqUint64S.gok (δ : Type) : AllCon Tryz.prog tab (laws_eqUint64S.gs δ) := .nil
noncomputable def laws_eqUint64S.c := cx laws_eqUint64S.s [] [(4, [0, 1, 5])] false (laws_eqUint64S.gs _)
noncomputable def laws_eqUint64S (x0 x1 : List Int) : Option (Bool) := fnW laws_eqUint64S.s laws_eqUint64S.c (x0, x1)
theorem laws_eqUint64S.fok : FkS laws_eqUint64S.s 88 := ⟨Tryz.func88, by kernel_rfl, by kernel_rfl⟩
noncomputable def laws_eqUint64S.fn (x : Args tab laws_eqUint64S.s.ar) : Option (ResT tab laws_eqUint64S.s.rs) := laws_eqUint64S x.1 x.2
noncomputable abbrev laws_eqUint64S.k {δ : Type} : Callee (GT tab) δ := kS laws_eqUint64S.s laws_eqUint64S.fn
theorem laws_eqUint64S.con {δ : Type} : Con Tryz.prog (KT tab) 88 (laws_eqUint64S.k (δ := δ)) := con_shape (c := laws_eqUint64S.c) mixed tysOk (getG_con (laws_eqUint64S.gok _)) laws_eqUint64S.fok rfl rfl fun _ => rfl
noncomputable def laws_eqUint64S_l0 (v0 v1 : List Int) (v2 : Int) : Option (Bool) := lpW laws_eqUint64S.s laws_eqUint64S.c 0 (ud 20 [.vs false 106 v0, .vs false 106 v1, .undef, .undef, .undef, .int .i64 v2]) [] 0
theorem laws_eqUint64S.eq (x0 x1 : List Int) : laws_eqUint64S x0 x1 =
    bif (x0.length : Int) != (x1.length : Int) then
      some false
    else
      laws_eqUint64S_l0 x0 x1 (0 : Int) := by kernel_rfl
theorem laws_eqUint64S_l0.eq (v0 v1 : List Int) (v2 : Int) : laws_eqUint64S_l0 v0 v1 v2 =
    bif decide (v2 < (v0.length : Int)) then
      (at? v0 v2).bind fun y1 =>
      (at? v1 v2).bind fun y2 =>
      bif y1 != y2 then
        some false
      else
        laws_eqUint64S_l0 v0 v1 (IntKind.i64.wrap (v2 + (1 : Int)))
    else
      some true := (Lw_eq tysOk (getG_con (laws_eqUint64S.gok _)) _ _).trans (by kernel_rfl)

noncomputable abbrev laws_eqBits.s : Sg := ⟨[.lend, .lend], [.agg [.int .i64, .sl false false 106], .agg [.int .i64, .sl false false 106]], ⟨[vb], [none, none]⟩, Tryz.f30⟩
noncomputable def laws_eqBits.gs (δ : Type) : List (Nat × Callee (GT tab) δ) := [(88, laws_eqUint64S.k)]
theorem laws_eqBits.gok (δ : Type) : AllCon Tryz.prog tab (laws_eqBits.gs δ) := .cons laws_eqUint64S.con .nil
noncomputable def laws_eqBits.c := cx laws_eqBits.s [] [] false (laws_eqBits.gs _)
noncomputable def laws_eqBits (x0 x1 : Int × (List Int)) : Option (Bool) := fnW laws_eqBits.s laws_eqBits.c (x0, x1)
theorem laws_eqBits.fok : FkS laws_eqBits.s 30 := ⟨Tryz.func30, by kernel_rfl, by kernel_rfl⟩
noncomputable def laws_eqBits.fn (x : Args tab laws_eqBits.s.ar) : Option (ResT tab laws_eqBits.s.rs) := laws_eqBits x.1 x.2
noncomputable abbrev laws_eqBits.k {δ : Type} : Callee (GT tab) δ := kS laws_eqBits.s laws_eqBits.fn
theorem laws_eqBits.con {δ : Type} : Con Tryz.prog (KT tab) 30 (laws_eqBits.k (δ := δ)) := con_shape (c := laws_eqBits.c) mixed tysOk (getG_con (laws_eqBits.gok _)) laws_eqBits.fok rfl rfl fun _ => rfl
theorem laws_eqBits.eq (x0 x1 : Int × (List Int)) : laws_eqBits x0 x1 =
    bif x0.1 != x1.1 then
      some false
    else
      (laws_eqUint64S x0.2 x1.2).bind fun y1 =>
      bif !y1 then
        some false
      else
        some true := by kernel_rfl

noncomputable abbrev laws_eqBitsS.s : Sg := ⟨[.lend, .lend], [vl 29, vl 29], ⟨[vb], [none, none]⟩, Tryz.f87⟩
noncomputable def laws_eqBitsS.gs (δ : Type) : List (Nat × Callee (GT tab) δ) := [(30, laws_eqBits.k)]
theorem laws_eqBitsS.gok (δ : Type) : AllCon Tryz.prog tab (laws_eqBitsS.gs δ) := .cons laws_eqBits.con .nil
noncomputable def laws_eqBitsS.c := cx laws_eqBitsS.s [] [(4, [0, 1, 5])] false (laws_eqBitsS.gs _)
noncomputable def laws_eqBitsS (x0 x1 : List (Int × (List Int))) : Option (Bool) := fnW laws_eqBitsS.s laws_eqBitsS.c (x0, x1)
theorem laws_eqBitsS.fok : FkS laws_eqBitsS.s 87 := ⟨Tryz.func87, by kernel_rfl, by kernel_rfl⟩
noncomputable def laws_eqBitsS.fn (x : Args tab laws_eqBitsS.s.ar) : Option (ResT tab laws_eqBitsS.s.rs) := laws_eqBitsS x.1 x.2
noncomputable abbrev laws_eqBitsS.k {δ : Type} : Callee (GT tab) δ := kS laws_eqBitsS.s laws_eqBitsS.fn
theorem laws_eqBitsS.con {δ : Type} : Con Tryz.prog (KT tab) 87 (laws_eqBitsS.k (δ := δ)) := con_shape (c := laws_eqBitsS.c) mixed tysOk (getG_con (laws_eqBitsS.gok _)) laws_eqBitsS.fok rfl rfl fun _ => rfl
noncomputable def laws_eqBitsS_l0 (v0 v1 : List (Int × (List Int))) (v2 : Int) : Option (Bool) := lpW laws_eqBitsS.s laws_eqBitsS.c 0 (ud 21 [.vs false 29 v0, .vs false 29 v1, .undef, .undef, .undef, .int .i64 v2]) [] 0
theorem laws_eqBitsS.eq (x0 x1 : List (Int × (List Int))) : laws_eqBitsS x0 x1 =
    bif (x0.length : Int) != (x1.length : Int) then
      some false
    else
      laws_eqBitsS_l0 x0 x1 (0 : Int) := by kernel_rfl
theorem laws_eqBitsS_l0.eq (v0 v1 : List (Int × (List Int))) (v2 : Int) : laws_eqBitsS_l0 v0 v1 v2 =
    bif decide (v2 < (v0.length : Int)) then
      (at? v0 v2).bind fun y1 =>
      (at? v1 v2).bind fun y2 =>
      (laws_eqBits y1 y2).bind fun y3 =>
      bif !y3 then
        some false
      else
        laws_eqBitsS_l0 v0 v1 (IntKind.i64.wrap (v2 + (1 : Int)))
    else
      some true := (Lw_eq tysOk (getG_con (laws_eqBitsS.gok _)) _ _).trans (by kernel_rfl)

noncomputable abbrev laws_eqWave.s : Sg := ⟨[.lend, .lend], [.agg [.int .i64, .sl false false 3, .sl false false 29], .agg [.int .i64, .sl false false 3, .sl false false 29]], ⟨[vb], [none, none]⟩, Tryz.f28⟩
noncomputable def laws_eqWave.gs (δ : Type) : List (Nat × Callee (GT tab) δ) := [(29, laws_eqIntS.k), (87, laws_eqBitsS.k)]
theorem laws_eqWave.gok (δ : Type) : AllCon Tryz.prog tab (laws_eqWave.gs δ) := .cons laws_eqIntS.con (.cons laws_eqBitsS.con .nil)
noncomputable def laws_eqWave.c := cx laws_eqWave.s [] [] false (laws_eqWave.gs _)
noncomputable def laws_eqWave (x0 x1 : Int × (List Int) × (List (Int × (List Int)))) : Option (Bool) := fnW laws_eqWave.s laws_eqWave.c (x0, x1)
theorem laws_eqWave.fok : FkS laws_eqWave.s 28 := ⟨Tryz.func28, by kernel_rfl, by kernel_rfl⟩
noncomputable def laws_eqWave.fn (x : Args tab laws_eqWave.s.ar) : Option (ResT tab laws_eqWave.s.rs) := laws_eqWave x.1 x.2
noncomputable abbrev laws_eqWave.k {δ : Type} : Callee (GT tab) δ := kS laws_eqWave.s laws_eqWave.fn
theorem laws_eqWave.con {δ : Type} : Con Tryz.prog (KT tab) 28 (laws_eqWave.k (δ := δ)) := con_shape (c := laws_eqWave.c) mixed tysOk (getG_con (laws_eqWave.gok _)) laws_eqWave.fok rfl rfl fun _ => rfl
theorem laws_eqWave.eq (x0 x1 : Int × (List Int) × (List (Int × (List Int)))) : laws_eqWave x0 x1 =
    bif x0.1 != x1.1 then
      some false
    else
      (laws_eqIntS x0.2.1 x1.2.1).bind fun y1 =>
      bif !y1 then
        some false
      else
        (laws_eqBitsS x0.2.2 x1.2.2).bind fun y2 =>
        bif !y2 then
          some false
        else
          some true := by kernel_rfl

noncomputable abbrev laws_eqPacked.s : Sg := ⟨[.lend, .lend], [.agg [.int .i64, .int .i64, .int .i64, .sl false false 106], .agg [.int .i64, .int .i64, .int .i64, .sl false false 106]], ⟨[vb], [none, none]⟩, Tryz.f31⟩
noncomputable def laws_eqPacked.gs (δ : Type) : List (Nat × Callee (GT tab) δ) := [(30, laws_eqBits.k)]
theorem laws_eqPacked.gok (δ : Type) : AllCon Tryz.prog tab (laws_eqPacked.gs δ) := .cons laws_eqBits.con .nil
noncomputable def laws_eqPacked.c := cx laws_eqPacked.s [] [] false (laws_eqPacked.gs _)
noncomputable def laws_eqPacked (x0 x1 : Int × Int × Int × (List Int)) : Option (Bool) := fnW laws_eqPacked.s laws_eqPacked.c (x0, x1)
theorem laws_eqPacked.fok : FkS laws_eqPacked.s 31 := ⟨Tryz.func31, by kernel_rfl, by kernel_rfl⟩
noncomputable def laws_eqPacked.fn (x : Args tab laws_eqPacked.s.ar) : Option (ResT tab laws_eqPacked.s.rs) := laws_eqPacked x.1 x.2
noncomputable abbrev laws_eqPacked.k {δ : Type} : Callee (GT tab) δ := kS laws_eqPacked.s laws_eqPacked.fn
theorem laws_eqPacked.con {δ : Type} : Con Tryz.prog (KT tab) 31 (laws_eqPacked.k (δ := δ)) := con_shape (c := laws_eqPacked.c) mixed tysOk (getG_con (laws_eqPacked.gok _)) laws_eqPacked.fok rfl rfl fun _ => rfl
theorem laws_eqPacked.eq (x0 x1 : Int × Int × Int × (List Int)) : laws_eqPacked x0 x1 =
    bif x0.1 != x1.1 then
      some false
    else
      bif x0.2.1 != x1.2.1 then
        some false
      else
        (laws_eqBits x0.2.2 x1.2.2).bind fun y1 =>
        bif !y1 then
          some false
        else
          some true := by kernel_rfl

noncomputable abbrev laws_eqFm.s : Sg := ⟨[.lend, .lend], [.agg [.int .i64, .int .i64, .int .i64, .sl false false 3, .sl false false 29, .sl false false 3, .int .i64, .sl false false 106, .int .i64, .int .i64, .int .i64, .sl false false 106, .int .i64, .int .i64, .int .i64, .sl false false 106], .agg [.int .i64, .int .i64, .int .i64, .sl false false 3, .sl false false 29, .sl false false 3, .int .i64, .sl false false 106, .int .i64, .int .i64, .int .i64, .sl false false 106, .int .i64, .int .i64, .int .i64, .sl false false 106]], ⟨[vb], [none, none]⟩, Tryz.f7⟩
noncomputable def laws_eqFm.gs (δ : Type) : List (Nat × Callee (GT tab) δ) := [(28, laws_eqWave.k), (29, laws_eqIntS.k), (30, laws_eqBits.k), (31, laws_eqPacked.k)]
theorem laws_eqFm.gok (δ : Type) : AllCon Tryz.prog tab (laws_eqFm.gs δ) := .cons laws_eqWave.con (.cons laws_eqIntS.con (.cons laws_eqBits.con (.cons laws_eqPacked.con .nil)))
noncomputable def laws_eqFm.c := cx laws_eqFm.s [] [] false (laws_eqFm.gs _)
noncomputable def laws_eqFm (x0 x1 : Int × Int × Int × (List Int) × (List (Int × (List Int))) × (List Int) × Int × (List Int) × Int × Int × Int × (List Int) × Int × Int × Int × (List Int)) : Option (Bool) := fnW laws_eqFm.s laws_eqFm.c (x0, x1)
theorem laws_eqFm.fok : FkS laws_eqFm.s 7 := ⟨Tryz.func7, by kernel_rfl, by kernel_rfl⟩
noncomputable def laws_eqFm.fn (x : Args tab laws_eqFm.s.ar) : Option (ResT tab laws_eqFm.s.rs) := laws_eqFm x.1 x.2
noncomputable abbrev laws_eqFm.k {δ : Type} : Callee (GT tab) δ := kS laws_eqFm.s laws_eqFm.fn
theorem laws_eqFm.con {δ : Type} : Con Tryz.prog (KT tab) 7 (laws_eqFm.k (δ := δ)) := con_shape (c := laws_eqFm.c) mixed tysOk (getG_con (laws_eqFm.gok _)) laws_eqFm.fok rfl rfl fun _ => rfl
theorem laws_eqFm.eq (x0 x1 : Int × Int × Int × (List Int) × (List (Int × (List Int))) × (List Int) × Int × (List Int) × Int × Int × Int × (List Int) × Int × Int × Int × (List Int)) : laws_eqFm x0 x1 =
    bif x0.1 != x1.1 then
      some false
    else
      bif x0.2.1 != x1.2.1 then
        some false
      else
        (laws_eqWave (x0.2.2.1, x0.2.2.2.1, x0.2.2.2.2.1) (x1.2.2.1, x1.2.2.2.1, x1.2.2.2.2.1)).bind fun y1 =>
        bif !y1 then
          some false
        else
          (laws_eqIntS x0.2.2.2.2.2.1 x1.2.2.2.2.2.1).bind fun y2 =>
          bif !y2 then
            some false
          else
            (laws_eqBits (x0.2.2.2.2.2.2.1, x0.2.2.2.2.2.2.2.1) (x1.2.2.2.2.2.2.1, x1.2.2.2.2.2.2.2.1)).bind fun y3 =>
            bif !y3 then
              some false
            else
              (laws_eqPacked (x0.2.2.2.2.2.2.2.2.1, x0.2.2.2.2.2.2.2.2.2.1, x0.2.2.2.2.2.2.2.2.2.2.1, x0.2.2.2.2.2.2.2.2.2.2.2.1) (x1.2.2.2.2.2.2.2.2.1, x1.2.2.2.2.2.2.2.2.2.1, x1.2.2.2.2.2.2.2.2.2.2.1, x1.2.2.2.2.2.2.2.2.2.2.2.1)).bind fun y4 =>
              bif !y4 then
                some false
              else
                (laws_eqPacked x0.2.2.2.2.2.2.2.2.2.2.2.2 x1.2.2.2.2.2.2.2.2.2.2.2.2).bind fun y5 =>
                bif !y5 then
                  some false
                else
                  some true := by kernel_rfl

noncomputable abbrev laws_eqByteS.s : Sg := ⟨[.lend, .lend], [vl 5, vl 5], ⟨[vb], [none, none]⟩, Tryz.f8⟩
noncomputable def laws_eqByteS.gs (δ : Type) : List (Nat × Callee (GT tab) δ) := []
theorem laws_eqByteS.gok (δ : Type) : AllCon Tryz.prog tab (laws_eqByteS.gs δ) := .nil
noncomputable def laws_eqByteS.c := cx laws_eqByteS.s [] [(4, [0, 1, 5])] false (laws_eqByteS.gs _)
noncomputable def laws_eqByteS (x0 x1 : List Int) : Option (Bool) := fnW laws_eqByteS.s laws_eqByteS.c (x0, x1)
theorem laws_eqByteS.fok : FkS laws_eqByteS.s 8 := ⟨Tryz.func8, by kernel_rfl, by kernel_rfl⟩
noncomputable def laws_eqByteS.fn (x : Args tab laws_eqByteS.s.ar) : Option (ResT tab laws_eqByteS.s.rs) := laws_eqByteS x.1 x.2
noncomputable abbrev laws_eqByteS.k {δ : Type} : Callee (GT tab) δ := kS laws_eqByteS.s laws_eqByteS.fn
theorem laws_eqByteS.con {δ : Type} : Con Tryz.prog (KT tab) 8 (laws_eqByteS.k (δ := δ)) := con_shape (c := laws_eqByteS.c) mixed tysOk (getG_con (laws_eqByteS.gok _)) laws_eqByteS.fok rfl rfl fun _ => rfl
noncomputable def laws_eqByteS_l0 (v0 v1 : List Int) (v2 : Int) : Option (Bool) := lpW laws_eqByteS.s laws_eqByteS.c 0 (ud 20 [.vs false 5 v0, .vs false 5 v1, .undef, .undef, .undef, .int .i64 v2]) [] 0
theorem laws_eqByteS.eq (x0 x1 : List Int) : laws_eqByteS x0 x1 =
    bif (x0.length : Int) != (x1.length : Int) then
      some false
    else
      laws_eqByteS_l0 x0 x1 (0 : Int) := by kernel_rfl
theorem laws_eqByteS_l0.eq (v0 v1 : List Int) (v2 : Int) : laws_eqByteS_l0 v0 v1 v2 =
    bif decide (v2 < (v0.length : Int)) then
      (at? v0 v2).bind fun y1 =>
      (at? v1 v2).bind fun y2 =>
      bif y1 != y2 then
        some false
      else
        laws_eqByteS_l0 v0 v1 (IntKind.i64.wrap (v2 + (1 : Int)))
    else
      some true := (Lw_eq tysOk (getG_con (laws_eqByteS.gok _)) _ _).trans (by kernel_rfl)

noncomputable abbrev laws_markByteS.s : Sg := ⟨[.keep, .lend], [vo 5, vi], ⟨[vi], [some (vo 5), none]⟩, Tryz.f9⟩
noncomputable def laws_markByteS.gs (δ : Type) : List (Nat × Callee (GT tab) δ) := []
theorem laws_markByteS.gok (δ : Type) : AllCon Tryz.prog tab (laws_markByteS.gs δ) := .nil
noncomputable def laws_markByteS.c := cx laws_markByteS.s [] [(2, [0, 1, 5])] false (laws_markByteS.gs _)
noncomputable def laws_markByteS (x0 : List Int) (x1 : Int) : Option (Int × (List Int)) := fnW laws_markByteS.s laws_markByteS.c (x0, x1)
theorem laws_markByteS.fok : FkS laws_markByteS.s 9 := ⟨Tryz.func9, by kernel_rfl, by kernel_rfl⟩
noncomputable def laws_markByteS.fn (x : Args tab laws_markByteS.s.ar) : Option (ResT tab laws_markByteS.s.rs) := laws_markByteS x.1 x.2
noncomputable abbrev laws_markByteS.k {δ : Type} : Callee (GT tab) δ := kS laws_markByteS.s laws_markByteS.fn
theorem laws_markByteS.con {δ : Type} : Con Tryz.prog (KT tab) 9 (laws_markByteS.k (δ := δ)) := con_shape (c := laws_markByteS.c) mixed tysOk (getG_con (laws_markByteS.gok _)) laws_markByteS.fok rfl rfl fun _ => rfl
noncomputable def laws_markByteS_l0 (v0 v1 : Int) (v2 : List Int) : Option (Int × (List Int)) := lpW laws_markByteS.s laws_markByteS.c 0 (ud 14 [.sl 0 0, .int .i64 v0, .undef, .undef, .undef, .int .i64 v1]) [.row 0 true 5 v2] 1
theorem laws_markByteS.eq (x0 : List Int) (x1 : Int) : laws_markByteS x0 x1 =
    laws_markByteS_l0 x1 (0 : Int) x0 := by kernel_rfl
theorem laws_markByteS_l0.eq (v0 v1 : Int) (v2 : List Int) : laws_markByteS_l0 v0 v1 v2 =
    bif decide (v1 < (v2.length : Int)) then
      (at? v2 v1).bind fun y1 =>
      v2[v1.toNat]?.bind fun y2 =>
      laws_markByteS_l0 (IntKind.i64.wrap (v0 + (1 : Int))) (IntKind.i64.wrap (v1 + (1 : Int))) (v2.set v1.toNat (IntKind.u8.wrap v0))
    else
      some (v0, v2) := (Lw_eq tysOk (getG_con (laws_markByteS.gok _)) _ _).trans (by kernel_rfl)

noncomputable abbrev laws_markIntS.s : Sg := ⟨[.keep, .lend], [vo 3, vi], ⟨[vi], [some (vo 3), none]⟩, Tryz.f33⟩
noncomputable def laws_markIntS.gs (δ : Type) : List (Nat × Callee (GT tab) δ) := []
theorem laws_markIntS.gok (δ : Type) : AllCon Tryz.prog tab (laws_markIntS.gs δ) := .nil
noncomputable def laws_markIntS.c := cx laws_markIntS.s [] [(2, [0, 1, 5])] false (laws_markIntS.gs _)
noncomputable def laws_markIntS (x0 : List Int) (x1 : Int) : Option (Int × (List Int)) := fnW laws_markIntS.s laws_markIntS.c (x0, x1)
theorem laws_markIntS.fok : FkS laws_markIntS.s 33 := ⟨Tryz.func33, by kernel_rfl, by kernel_rfl⟩
noncomputable def laws_markIntS.fn (x : Args tab laws_markIntS.s.ar) : Option (ResT tab laws_markIntS.s.rs) := laws_markIntS x.1 x.2
noncomputable abbrev laws_markIntS.k {δ : Type} : Callee (GT tab) δ := kS laws_markIntS.s laws_markIntS.fn
theorem laws_markIntS.con {δ : Type} : Con Tryz.prog (KT tab) 33 (laws_markIntS.k (δ := δ)) := con_shape (c := laws_markIntS.c) mixed tysOk (getG_con (laws_markIntS.gok _)) laws_markIntS.fok rfl rfl fun _ => rfl
noncomputable def laws_markIntS_l0 (v0 v1 : Int) (v2 : List Int) : Option (Int × (List Int)) := lpW laws_markIntS.s laws_markIntS.c 0 (ud 13 [.sl 0 0, .int .i64 v0, .undef, .undef, .undef, .int .i64 v1]) [.row 0 true 3 v2] 1
theorem laws_markIntS.eq (x0 : List Int) (x1 : Int) : laws_markIntS x0 x1 =
    laws_markIntS_l0 x1 (0 : Int) x0 := by kernel_rfl
theorem laws_markIntS_l0.eq (v0 v1 : Int) (v2 : List Int) : laws_markIntS_l0 v0 v1 v2 =
    bif decide (v1 < (v2.length : Int)) then
      (at? v2 v1).bind fun y1 =>
      v2[v1.toNat]?.bind fun y2 =>
      laws_markIntS_l0 (IntKind.i64.wrap (v0 + (1 : Int))) (IntKind.i64.wrap (v1 + (1 : Int))) (v2.set v1.toNat v0)
    else
      some (v0, v2) := (Lw_eq tysOk (getG_con (laws_markIntS.gok _)) _ _).trans (by kernel_rfl)

noncomputable abbrev laws_markUint64S.s : Sg := ⟨[.keep, .lend], [vo 106, vi], ⟨[vi], [some (vo 106), none]⟩, Tryz.f90⟩
noncomputable def laws_markUint64S.gs (δ : Type) : List (Nat × Callee (GT tab) δ) := []
theorem laws_markUint64S.gok (δ : Type) : AllCon Tryz.prog tab (laws_markUint64S.gs δ) := .nil
noncomputable def laws_markUint64S.c := cx laws_markUint64S.s [] [(2, [0, 1, 5])] false (laws_markUint64S.gs _)
noncomputable def laws_markUint64S (x0 : List Int) (x1 : Int) : Option (Int × (List Int)) := fnW laws_markUint64S.s laws_markUint64S.c (x0, x1)
theorem laws_markUint64S.fok : FkS laws_markUint64S.s 90 := ⟨Tryz.func90, by kernel_rfl, by kernel_rfl⟩
noncomputable def laws_markUint64S.fn (x : Args tab laws_markUint64S.s.ar) : Option (ResT tab laws_markUint64S.s.rs) := laws_markUint64S x.1 x.2
noncomputable abbrev laws_markUint64S.k {δ : Type} : Callee (GT tab) δ := kS laws_markUint64S.s laws_markUint64S.fn
theorem laws_markUint64S.con {δ : Type} : Con Tryz.prog (KT tab) 90 (laws_markUint64S.k (δ := δ)) := con_shape (c := laws_markUint64S.c) mixed tysOk (getG_con (laws_markUint64S.gok _)) laws_markUint64S.fok rfl rfl fun _ => rfl
noncomputable def laws_markUint64S_l0 (v0 v1 : Int) (v2 : List Int) : Option (Int × (List Int)) := lpW laws_markUint64S.s laws_markUint64S.c 0 (ud 14 [.sl 0 0, .int .i64 v0, .undef, .undef, .undef, .int .i64 v1]) [.row 0 true 106 v2] 1
theorem laws_markUint64S.eq (x0 : List Int) (x1 : Int) : laws_markUint64S x0 x1 =
    laws_markUint64S_l0 x1 (0 : Int) x0 := by kernel_rfl
theorem laws_markUint64S_l0.eq (v0 v1 : Int) (v2 : List Int) : laws_markUint64S_l0 v0 v1 v2 =
    bif decide (v1 < (v2.length : Int)) then
      (at? v2 v1).bind fun y1 =>
      v2[v1.toNat]?.bind fun y2 =>
      laws_markUint64S_l0 (IntKind.i64.wrap (v0 + (1 : Int))) (IntKind.i64.wrap (v1 + (1 : Int))) (v2.set v1.toNat (IntKind.u64.wrap v0))
    else
      some (v0, v2) := (Lw_eq tysOk (getG_con (laws_markUint64S.gok _)) _ _).trans (by kernel_rfl)

noncomputable abbrev laws_markBitsS.s : Sg := ⟨[.keep, .lend], [vo 29, vi], ⟨[vi], [some (vo 29), none]⟩, Tryz.f89⟩
noncomputable def laws_markBitsS.gs (δ : Type) : List (Nat × Callee (GT tab) δ) := [(90, laws_markUint64S.k)]
theorem laws_markBitsS.gok (δ : Type) : AllCon Tryz.prog tab (laws_markBitsS.gs δ) := .cons laws_markUint64S.con .nil
noncomputable def laws_markBitsS.c := cx laws_markBitsS.s [] [(2, [0, 1, 5])] false (laws_markBitsS.gs _)
noncomputable def laws_markBitsS (x0 : List (Int × (List Int))) (x1 : Int) : Option (Int × (List (Int × (List Int)))) := fnW laws_markBitsS.s laws_markBitsS.c (x0, x1)
theorem laws_markBitsS.fok : FkS laws_markBitsS.s 89 := ⟨Tryz.func89, by kernel_rfl, by kernel_rfl⟩
noncomputable def laws_markBitsS.fn (x : Args tab laws_markBitsS.s.ar) : Option (ResT tab laws_markBitsS.s.rs) := laws_markBitsS x.1 x.2
noncomputable abbrev laws_markBitsS.k {δ : Type} : Callee (GT tab) δ := kS laws_markBitsS.s laws_markBitsS.fn
theorem laws_markBitsS.con {δ : Type} : Con Tryz.prog (KT tab) 89 (laws_markBitsS.k (δ := δ)) := con_shape (c := laws_markBitsS.c) mixed tysOk (getG_con (laws_markBitsS.gok _)) laws_markBitsS.fok rfl rfl fun _ => rfl
noncomputable def laws_markBitsS_l0 (v0 v1 : Int) (v2 : List (Int × (List Int))) : Option (Int × (List (Int × (List Int)))) := lpW laws_markBitsS.s laws_markBitsS.c 0 (ud 21 [.sl 0 0, .int .i64 v0, .undef, .undef, .undef, .int .i64 v1]) [.row 0 true 29 v2] 1
theorem laws_markBitsS.eq (x0 : List (Int × (List Int))) (x1 : Int) : laws_markBitsS x0 x1 =
    laws_markBitsS_l0 x1 (0 : Int) x0 := by kernel_rfl
theorem laws_markBitsS_l0.eq (v0 v1 : Int) (v2 : List (Int × (List Int))) : laws_markBitsS_l0 v0 v1 v2 =
    bif decide (v1 < (v2.length : Int)) then
      (at? v2 v1).bind fun y1 =>
      v2[v1.toNat]?.bind fun y2 =>
      (at? (v2.set v1.toNat (v0, y2.2)) v1).bind fun y3 =>
      (v2.set v1.toNat (v0, y2.2))[v1.toNat]?.bind fun y4 =>
      (laws_markUint64S y4.2 (IntKind.i64.wrap (v0 + (1 : Int)))).bind fun y5 =>
      laws_markBitsS_l0 y5.1 (IntKind.i64.wrap (v1 + (1 : Int))) ((v2.set v1.toNat (v0, y2.2)).set v1.toNat (y4.1, y5.2))
    else
      some (v0, v2) := (Lw_eq tysOk (getG_con (laws_markBitsS.gok _)) _ _).trans (by kernel_rfl)

noncomputable abbrev laws_markWave.s : Sg := ⟨[.keep, .lend], [.agg [.int .i64, .sl true true 3, .sl true true 29], vi], ⟨[vi], [some (.agg [.int .i64, .sl true true 3, .sl true true 29]), none]⟩, Tryz.f32⟩
noncomputable def laws_markWave.gs (δ : Type) : List (Nat × Callee (GT tab) δ) := [(33, laws_markIntS.k), (89, laws_markBitsS.k)]
theorem laws_markWave.gok (δ : Type) : AllCon Tryz.prog tab (laws_markWave.gs δ) := .cons laws_markIntS.con (.cons laws_markBitsS.con .nil)
noncomputable def laws_markWave.c := cx laws_markWave.s [] [] false (laws_markWave.gs _)
noncomputable def laws_markWave (x0 : Int × (List Int) × (List (Int × (List Int)))) (x1 : Int) : Option (Int × (Int × (List Int) × (List (Int × (List Int))))) := fnW laws_markWave.s laws_markWave.c (x0, x1)
theorem laws_markWave.fok : FkS laws_markWave.s 32 := ⟨Tryz.func32, by kernel_rfl, by kernel_rfl⟩
noncomputable def laws_markWave.fn (x : Args tab laws_markWave.s.ar) : Option (ResT tab laws_markWave.s.rs) := laws_markWave x.1 x.2
noncomputable abbrev laws_markWave.k {δ : Type} : Callee (GT tab) δ := kS laws_markWave.s laws_markWave.fn
theorem laws_markWave.con {δ : Type} : Con Tryz.prog (KT tab) 32 (laws_markWave.k (δ := δ)) := con_shape (c := laws_markWave.c) mixed tysOk (getG_con (laws_markWave.gok _)) laws_markWave.fok rfl rfl fun _ => rfl
theorem laws_markWave.eq (x0 : Int × (List Int) × (List (Int × (List Int)))) (x1 : Int) : laws_markWave x0 x1 =
    (laws_markIntS x0.2.1 x1).bind fun y1 =>
    (laws_markBitsS x0.2.2 y1.1).bind fun y2 =>
    some (y2.1, (x0.1, y1.2, y2.2)) := by kernel_rfl

noncomputable abbrev laws_markBits.s : Sg := ⟨[.keep, .lend], [.agg [.int .i64, .sl true true 106], vi], ⟨[vi], [some (.agg [.int .i64, .sl true true 106]), none]⟩, Tryz.f34⟩
noncomputable def laws_markBits.gs (δ : Type) : List (Nat × Callee (GT tab) δ) := [(90, laws_markUint64S.k)]
theorem laws_markBits.gok (δ : Type) : AllCon Tryz.prog tab (laws_markBits.gs δ) := .cons laws_markUint64S.con .nil
noncomputable def laws_markBits.c := cx laws_markBits.s [] [] false (laws_markBits.gs _)
noncomputable def laws_markBits (x0 : Int × (List Int)) (x1 : Int) : Option (Int × (Int × (List Int))) := fnW laws_markBits.s laws_markBits.c (x0, x1)
theorem laws_markBits.fok : FkS laws_markBits.s 34 := ⟨Tryz.func34, by kernel_rfl, by kernel_rfl⟩
noncomputable def laws_markBits.fn (x : Args tab laws_markBits.s.ar) : Option (ResT tab laws_markBits.s.rs) := laws_markBits x.1 x.2
noncomputable abbrev laws_markBits.k {δ : Type} : Callee (GT tab) δ := kS laws_markBits.s laws_markBits.fn
theorem laws_markBits.con {δ : Type} : Con Tryz.prog (KT tab) 34 (laws_markBits.k (δ := δ)) := con_shape (c := laws_markBits.c) mixed tysOk (getG_con (laws_markBits.gok _)) laws_markBits.fok rfl rfl fun _ => rfl
theorem laws_markBits.eq (x0 : Int × (List Int)) (x1 : Int) : laws_markBits x0 x1 =
    (laws_markUint64S x0.2 x1).bind fun y1 =>
    some (y1.1, (x0.1, y1.2)) := by kernel_rfl

noncomputable abbrev laws_markPacked.s : Sg := ⟨[.keep, .lend], [.agg [.int .i64, .int .i64, .int .i64, .sl true true 106], vi], ⟨[vi], [some (.agg [.int .i64, .int .i64, .int .i64, .sl true true 106]), none]⟩, Tryz.f35⟩
noncomputable def laws_markPacked.gs (δ : Type) : List (Nat × Callee (GT tab) δ) := [(34, laws_markBits.k)]
theorem laws_markPacked.gok (δ : Type) : AllCon Tryz.prog tab (laws_markPacked.gs δ) := .cons laws_markBits.con .nil
noncomputable def laws_markPacked.c := cx laws_markPacked.s [] [] false (laws_markPacked.gs _)
noncomputable def laws_markPacked (x0 : Int × Int × Int × (List Int)) (x1 : Int) : Option (Int × (Int × Int × Int × (List Int))) := fnW laws_markPacked.s laws_markPacked.c (x0, x1)
theorem laws_markPacked.fok : FkS laws_markPacked.s 35 := ⟨Tryz.func35, by kernel_rfl, by kernel_rfl⟩
noncomputable def laws_markPacked.fn (x : Args tab laws_markPacked.s.ar) : Option (ResT tab laws_markPacked.s.rs) := laws_markPacked x.1 x.2
noncomputable abbrev laws_markPacked.k {δ : Type} : Callee (GT tab) δ := kS laws_markPacked.s laws_markPacked.fn
theorem laws_markPacked.con {δ : Type} : Con Tryz.prog (KT tab) 35 (laws_markPacked.k (δ := δ)) := con_shape (c := laws_markPacked.c) mixed tysOk (getG_con (laws_markPacked.gok _)) laws_markPacked.fok rfl rfl fun _ => rfl
theorem laws_markPacked.eq (x0 : Int × Int × Int × (List Int)) (x1 : Int) : laws_markPacked x0 x1 =
    (laws_markBits x0.2.2 x1).bind fun y1 =>
    some (y1.1, (x0.1, x0.2.1, x0.2.2.1, y1.2.2)) := by kernel_rfl

noncomputable abbrev laws_markFm.s : Sg := ⟨[.keep, .lend], [.agg [.int .i64, .int .i64, .int .i64, .sl true true 3, .sl true true 29, .sl true true 3, .int .i64, .sl true true 106, .int .i64, .int .i64, .int .i64, .sl true true 106, .int .i64, .int .i64, .int .i64, .sl true true 106], vi], ⟨[vi], [some (.agg [.int .i64, .int .i64, .int .i64, .sl true true 3, .sl true true 29, .sl true true 3, .int .i64, .sl true true 106, .int .i64, .int .i64, .int .i64, .sl true true 106, .int .i64, .int .i64, .int .i64, .sl true true 106]), none]⟩, Tryz.f10⟩
noncomputable def laws_markFm.gs (δ : Type) : List (Nat × Callee (GT tab) δ) := [(32, laws_markWave.k), (33, laws_markIntS.k), (34, laws_markBits.k), (35, laws_markPacked.k)]
theorem laws_markFm.gok (δ : Type) : AllCon Tryz.prog tab (laws_markFm.gs δ) := .cons laws_markWave.con (.cons laws_markIntS.con (.cons laws_markBits.con (.cons laws_markPacked.con .nil)))
noncomputable def laws_markFm.c := cx laws_markFm.s [] [] false (laws_markFm.gs _)
noncomputable def laws_markFm (x0 : Int × Int × Int × (List Int) × (List (Int × (List Int))) × (List Int) × Int × (List Int) × Int × Int × Int × (List Int) × Int × Int × Int × (List Int)) (x1 : Int) : Option (Int × (Int × Int × Int × (List Int) × (List (Int × (List Int))) × (List Int) × Int × (List Int) × Int × Int × Int × (List Int) × Int × Int × Int × (List Int))) := fnW laws_markFm.s laws_markFm.c (x0, x1)
theorem laws_markFm.fok : FkS laws_markFm.s 10 := ⟨Tryz.func10, by kernel_rfl, by kernel_rfl⟩
noncomputable def laws_markFm.fn (x : Args tab laws_markFm.s.ar) : Option (ResT tab laws_markFm.s.rs) := laws_markFm x.1 x.2
noncomputable abbrev laws_markFm.k {δ : Type} : Callee (GT tab) δ := kS laws_markFm.s laws_markFm.fn
theorem laws_markFm.con {δ : Type} : Con Tryz.prog (KT tab) 10 (laws_markFm.k (δ := δ)) := con_shape (c := laws_markFm.c) mixed tysOk (getG_con (laws_markFm.gok _)) laws_markFm.fok rfl rfl fun _ => rfl
theorem laws_markFm.eq (x0 : Int × Int × Int × (List Int) × (List (Int × (List Int))) × (List Int) × Int × (List Int) × Int × Int × Int × (List Int) × Int × Int × Int × (List Int)) (x1 : Int) : laws_markFm x0 x1 =
    (laws_markWave (x0.2.2.1, x0.2.2.2.1, x0.2.2.2.2.1) x1).bind fun y1 =>
    (laws_markIntS x0.2.2.2.2.2.1 y1.1).bind fun y2 =>
    (laws_markBits (x0.2.2.2.2.2.2.1, x0.2.2.2.2.2.2.2.1) y2.1).bind fun y3 =>
    (laws_markPacked (x0.2.2.2.2.2.2.2.2.1, x0.2.2.2.2.2.2.2.2.2.1, x0.2.2.2.2.2.2.2.2.2.2.1, x0.2.2.2.2.2.2.2.2.2.2.2.1) y3.1).bind fun y4 =>
    (laws_markPacked x0.2.2.2.2.2.2.2.2.2.2.2.2 y4.1).bind fun y5 =>
    some (y5.1, (x0.1, x0.2.1, x0.2.2.1, y1.2.2.1, y1.2.2.2, y2.2, x0.2.2.2.2.2.2.1, y3.2.2, x0.2.2.2.2.2.2.2.2.1, x0.2.2.2.2.2.2.2.2.2.1, x0.2.2.2.2.2.2.2.2.2.2.1, y4.2.2.2.2, x0.2.2.2.2.2.2.2.2.2.2.2.2.1, x0.2.2.2.2.2.2.2.2.2.2.2.2.2.1, x0.2.2.2.2.2.2.2.2.2.2.2.2.2.2.1, y5.2.2.2.2)) := by kernel_rfl

noncomputable abbrev laws_heldIntS.s : Sg := ⟨[.lend, .lend], [vl 3, vi], ⟨[vi], [none, none]⟩, Tryz.f37⟩
noncomputable def laws_heldIntS.gs (δ : Type) : List (Nat × Callee (GT tab) δ) := []
theorem laws_heldIntS.gok (δ : Type) : AllCon Tryz.prog tab (laws_heldIntS.gs δ) := .nil
noncomputable def laws_heldIntS.c := cx laws_heldIntS.s [] [(2, [0, 1, 5])] false (laws_heldIntS.gs _)
noncomputable def laws_heldIntS (x0 : List Int) (x1 : Int) : Option (Int) := fnW laws_heldIntS.s laws_heldIntS.c (x0, x1)
theorem laws_heldIntS.fok : FkS laws_heldIntS.s 37 := ⟨Tryz.func37, by kernel_rfl, by kernel_rfl⟩
noncomputable def laws_heldIntS.fn (x : Args tab laws_heldIntS.s.ar) : Option (ResT tab laws_heldIntS.s.rs) := laws_heldIntS x.1 x.2
noncomputable abbrev laws_heldIntS.k {δ : Type} : Callee (GT tab) δ := kS laws_heldIntS.s laws_heldIntS.fn
theorem laws_heldIntS.con {δ : Type} : Con Tryz.prog (KT tab) 37 (laws_heldIntS.k (δ := δ)) := con_shape (c := laws_heldIntS.c) mixed tysOk (getG_con (laws_heldIntS.gok _)) laws_heldIntS.fok rfl rfl fun _ => rfl
noncomputable def laws_heldIntS_l0 (v0 : List Int) (v1 v2 : Int) : Option (Int) := lpW laws_heldIntS.s laws_heldIntS.c 0 (ud 15 [.vs false 3 v0, .int .i64 v1, .undef, .undef, .undef, .int .i64 v2]) [] 0
theorem laws_heldIntS.eq (x0 : List Int) (x1 : Int) : laws_heldIntS x0 x1 =
    laws_heldIntS_l0 x0 x1 (0 : Int) := by kernel_rfl
theorem laws_heldIntS_l0.eq (v0 : List Int) (v1 v2 : Int) : laws_heldIntS_l0 v0 v1 v2 =
    bif decide (v2 < (v0.length : Int)) then
      (at? v0 v2).bind fun y1 =>
      bif y1 != v1 then
        some (-1 : Int)
      else
        laws_heldIntS_l0 v0 (IntKind.i64.wrap (v1 + (1 : Int))) (IntKind.i64.wrap (v2 + (1 : Int)))
    else
      some v1 := (Lw_eq tysOk (getG_con (laws_heldIntS.gok _)) _ _).trans (by kernel_rfl)

noncomputable abbrev laws_heldUint64S.s : Sg := ⟨[.lend, .lend], [vl 106, vi], ⟨[vi], [none, none]⟩, Tryz.f92⟩
noncomputable def laws_heldUint64S.gs (δ : Type) : List (Nat × Callee (GT tab) δ) := []
theorem laws_heldUint64S.gok (δ : Type) : AllCon Tryz.prog tab (laws_heldUint64S.gs δ) := .nil
noncomputable def laws_heldUint64S.c := cx laws_heldUint64S.s [] [(2, [0, 1, 5])] false (laws_heldUint64S.gs _)
noncomputable def laws_heldUint64S (x0 : List Int) (x1 : Int) : Option (Int) := fnW laws_heldUint64S.s laws_heldUint64S.c (x0, x1)
theorem laws_heldUint64S.fok : FkS laws_heldUint64S.s 92 := ⟨Tryz.func92, by kernel_rfl, by kernel_rfl⟩
noncomputable def laws_heldUint64S.fn (x : Args tab laws_heldUint64S.s.ar) : Option (ResT tab laws_heldUint64S.s.rs) := laws_heldUint64S x.1 x.2
noncomputable abbrev laws_heldUint64S.k {δ : Type} : Callee (GT tab) δ := kS laws_heldUint64S.s laws_heldUint64S.fn
theorem laws_heldUint64S.con {δ : Type} : Con Tryz.prog (KT tab) 92 (laws_heldUint64S.k (δ := δ)) := con_shape (c := laws_heldUint64S.c) mixed tysOk (getG_con (laws_heldUint64S.gok _)) laws_heldUint64S.fok rfl rfl fun _ => rfl
noncomputable def laws_heldUint64S_l0 (v0 : List Int) (v1 v2 : Int) : Option (Int) := lpW laws_heldUint64S.s laws_heldUint64S.c 0 (ud 16 [.vs false 106 v0, .int .i64 v1, .undef, .undef, .undef, .int .i64 v2]) [] 0
theorem laws_heldUint64S.eq (x0 : List Int) (x1 : Int) : laws_heldUint64S x0 x1 =
    laws_heldUint64S_l0 x0 x1 (0 : Int) := by kernel_rfl
theorem laws_heldUint64S_l0.eq (v0 : List Int) (v1 v2 : Int) : laws_heldUint64S_l0 v0 v1 v2 =
    bif decide (v2 < (v0.length : Int)) then
      (at? v0 v2).bind fun y1 =>
      bif y1 != IntKind.u64.wrap v1 then
        some (-1 : Int)
      else
        laws_heldUint64S_l0 v0 (IntKind.i64.wrap (v1 + (1 : Int))) (IntKind.i64.wrap (v2 + (1 : Int)))
    else
      some v1 := (Lw_eq tysOk (getG_con (laws_heldUint64S.gok _)) _ _).trans (by kernel_rfl)

noncomputable abbrev laws_heldBitsS.s : Sg := ⟨[.lend, .lend], [vl 29, vi], ⟨[vi], [none, none]⟩, Tryz.f91⟩
noncomputable def laws_heldBitsS.gs (δ : Type) : List (Nat × Callee (GT tab) δ) := [(92, laws_heldUint64S.k)]
theorem laws_heldBitsS.gok (δ : Type) : AllCon Tryz.prog tab (laws_heldBitsS.gs δ) := .cons laws_heldUint64S.con .nil
noncomputable def laws_heldBitsS.c := cx laws_heldBitsS.s [] [(2, [0, 1, 5])] false (laws_heldBitsS.gs _)
noncomputable def laws_heldBitsS (x0 : List (Int × (List Int))) (x1 : Int) : Option (Int) := fnW laws_heldBitsS.s laws_heldBitsS.c (x0, x1)
theorem laws_heldBitsS.fok : FkS laws_heldBitsS.s 91 := ⟨Tryz.func91, by kernel_rfl, by kernel_rfl⟩
noncomputable def laws_heldBitsS.fn (x : Args tab laws_heldBitsS.s.ar) : Option (ResT tab laws_heldBitsS.s.rs) := laws_heldBitsS x.1 x.2
noncomputable abbrev laws_heldBitsS.k {δ : Type} : Callee (GT tab) δ := kS laws_heldBitsS.s laws_heldBitsS.fn
theorem laws_heldBitsS.con {δ : Type} : Con Tryz.prog (KT tab) 91 (laws_heldBitsS.k (δ := δ)) := con_shape (c := laws_heldBitsS.c) mixed tysOk (getG_con (laws_heldBitsS.gok _)) laws_heldBitsS.fok rfl rfl fun _ => rfl
noncomputable def laws_heldBitsS_l0 (v0 : List (Int × (List Int))) (v1 v2 : Int) : Option (Int) := lpW laws_heldBitsS.s laws_heldBitsS.c 0 (ud 25 [.vs false 29 v0, .int .i64 v1, .undef, .undef, .undef, .int .i64 v2]) [] 0
theorem laws_heldBitsS.eq (x0 : List (Int × (List Int))) (x1 : Int) : laws_heldBitsS x0 x1 =
    laws_heldBitsS_l0 x0 x1 (0 : Int) := by kernel_rfl
theorem laws_heldBitsS_l0.eq (v0 : List (Int × (List Int))) (v1 v2 : Int) : laws_heldBitsS_l0 v0 v1 v2 =
    bif decide (v2 < (v0.length : Int)) then
      (at? v0 v2).bind fun y1 =>
      bif y1.1 != v1 then
        some (-1 : Int)
      else
        (at? v0 v2).bind fun y2 =>
        (laws_heldUint64S y2.2 (IntKind.i64.wrap (v1 + (1 : Int)))).bind fun y3 =>
        bif decide (y3 < (0 : Int)) then
          some (-1 : Int)
        else
          laws_heldBitsS_l0 v0 y3 (IntKind.i64.wrap (v2 + (1 : Int)))
    else
      some v1 := (Lw_eq tysOk (getG_con (laws_heldBitsS.gok _)) _ _).trans (by kernel_rfl)

noncomputable abbrev laws_heldWave.s : Sg := ⟨[.lend, .lend], [.agg [.int .i64, .sl false false 3, .sl false false 29], vi], ⟨[vi], [none, none]⟩, Tryz.f36⟩
noncomputable def laws_heldWave.gs (δ : Type) : List (Nat × Callee (GT tab) δ) := [(37, laws_heldIntS.k), (91, laws_heldBitsS.k)]
theorem laws_heldWave.gok (δ : Type) : AllCon Tryz.prog tab (laws_heldWave.gs δ) := .cons laws_heldIntS.con (.cons laws_heldBitsS.con .nil)
noncomputable def laws_heldWave.c := cx laws_heldWave.s [] [] false (laws_heldWave.gs _)
noncomputable def laws_heldWave (x0 : Int × (List Int) × (List (Int × (List Int)))) (x1 : Int) : Option (Int) := fnW laws_heldWave.s laws_heldWave.c (x0, x1)
theorem laws_heldWave.fok : FkS laws_heldWave.s 36 := ⟨Tryz.func36, by kernel_rfl, by kernel_rfl⟩
noncomputable def laws_heldWave.fn (x : Args tab laws_heldWave.s.ar) : Option (ResT tab laws_heldWave.s.rs) := laws_heldWave x.1 x.2
noncomputable abbrev laws_heldWave.k {δ : Type} : Callee (GT tab) δ := kS laws_heldWave.s laws_heldWave.fn
theorem laws_heldWave.con {δ : Type} : Con Tryz.prog (KT tab) 36 (laws_heldWave.k (δ := δ)) := con_shape (c := laws_heldWave.c) mixed tysOk (getG_con (laws_heldWave.gok _)) laws_heldWave.fok rfl rfl fun _ => rfl
theorem laws_heldWave.eq (x0 : Int × (List Int) × (List (Int × (List Int)))) (x1 : Int) : laws_heldWave x0 x1 =
    (laws_heldIntS x0.2.1 x1).bind fun y1 =>
    bif decide (y1 < (0 : Int)) then
      some (-1 : Int)
    else
      (laws_heldBitsS x0.2.2 y1).bind fun y2 =>
      bif decide (y2 < (0 : Int)) then
        some (-1 : Int)
      else
        some y2 := by kernel_rfl

noncomputable abbrev laws_heldBits.s : Sg := ⟨[.lend, .lend], [.agg [.int .i64, .sl false false 106], vi], ⟨[vi], [none, none]⟩, Tryz.f38⟩
noncomputable def laws_heldBits.gs (δ : Type) : List (Nat × Callee (GT tab) δ) := [(92, laws_heldUint64S.k)]
theorem laws_heldBits.gok (δ : Type) : AllCon Tryz.prog tab (laws_heldBits.gs δ) := .cons laws_heldUint64S.con .nil
noncomputable def laws_heldBits.c := cx laws_heldBits.s [] [] false (laws_heldBits.gs _)
noncomputable def laws_heldBits (x0 : Int × (List Int)) (x1 : Int) : Option (Int) := fnW laws_heldBits.s laws_heldBits.c (x0, x1)
theorem laws_heldBits.fok : FkS laws_heldBits.s 38 := ⟨Tryz.func38, by kernel_rfl, by kernel_rfl⟩
noncomputable def laws_heldBits.fn (x : Args tab laws_heldBits.s.ar) : Option (ResT tab laws_heldBits.s.rs) := laws_heldBits x.1 x.2
noncomputable abbrev laws_heldBits.k {δ : Type} : Callee (GT tab) δ := kS laws_heldBits.s laws_heldBits.fn
theorem laws_heldBits.con {δ : Type} : Con Tryz.prog (KT tab) 38 (laws_heldBits.k (δ := δ)) := con_shape (c := laws_heldBits.c) mixed tysOk (getG_con (laws_heldBits.gok _)) laws_heldBits.fok rfl rfl fun _ => rfl
theorem laws_heldBits.eq (x0 : Int × (List Int)) (x1 : Int) : laws_heldBits x0 x1 =
    (laws_heldUint64S x0.2 x1).bind fun y1 =>
    bif decide (y1 < (0 : Int)) then
      some (-1 : Int)
    else
      some y1 := by kernel_rfl

noncomputable abbrev laws_heldPacked.s : Sg := ⟨[.lend, .lend], [.agg [.int .i64, .int .i64, .int .i64, .sl false false 106], vi], ⟨[vi], [none, none]⟩, Tryz.f39⟩
noncomputable def laws_heldPacked.gs (δ : Type) : List (Nat × Callee (GT tab) δ) := [(38, laws_heldBits.k)]
theorem laws_heldPacked.gok (δ : Type) : AllCon Tryz.prog tab (laws_heldPacked.gs δ) := .cons laws_heldBits.con .nil
noncomputable def laws_heldPacked.c := cx laws_heldPacked.s [] [] false (laws_heldPacked.gs _)
noncomputable def laws_heldPacked (x0 : Int × Int × Int × (List Int)) (x1 : Int) : Option (Int) := fnW laws_heldPacked.s laws_heldPacked.c (x0, x1)
theorem laws_heldPacked.fok : FkS laws_heldPacked.s 39 := ⟨Tryz.func39, by kernel_rfl, by kernel_rfl⟩
noncomputable def laws_heldPacked.fn (x : Args tab laws_heldPacked.s.ar) : Option (ResT tab laws_heldPacked.s.rs) := laws_heldPacked x.1 x.2
noncomputable abbrev laws_heldPacked.k {δ : Type} : Callee (GT tab) δ := kS laws_heldPacked.s laws_heldPacked.fn
theorem laws_heldPacked.con {δ : Type} : Con Tryz.prog (KT tab) 39 (laws_heldPacked.k (δ := δ)) := con_shape (c := laws_heldPacked.c) mixed tysOk (getG_con (laws_heldPacked.gok _)) laws_heldPacked.fok rfl rfl fun _ => rfl
theorem laws_heldPacked.eq (x0 : Int × Int × Int × (List Int)) (x1 : Int) : laws_heldPacked x0 x1 =
    (laws_heldBits x0.2.2 x1).bind fun y1 =>
    bif decide (y1 < (0 : Int)) then
      some (-1 : Int)
    else
      some y1 := by kernel_rfl

noncomputable abbrev laws_heldFm.s : Sg := ⟨[.lend, .lend], [.agg [.int .i64, .int .i64, .int .i64, .sl false false 3, .sl false false 29, .sl false false 3, .int .i64, .sl false false 106, .int .i64, .int .i64, .int .i64, .sl false false 106, .int .i64, .int .i64, .int .i64, .sl false false 106], vi], ⟨[vi], [none, none]⟩, Tryz.f11⟩
noncomputable def laws_heldFm.gs (δ : Type) : List (Nat × Callee (GT tab) δ) := [(36, laws_heldWave.k), (37, laws_heldIntS.k), (38, laws_heldBits.k), (39, laws_heldPacked.k)]
theorem laws_heldFm.gok (δ : Type) : AllCon Tryz.prog tab (laws_heldFm.gs δ) := .cons laws_heldWave.con (.cons laws_heldIntS.con (.cons laws_heldBits.con (.cons laws_heldPacked.con .nil)))
noncomputable def laws_heldFm.c := cx laws_heldFm.s [] [] false (laws_heldFm.gs _)
noncomputable def laws_heldFm (x0 : Int × Int × Int × (List Int) × (List (Int × (List Int))) × (List Int) × Int × (List Int) × Int × Int × Int × (List Int) × Int × Int × Int × (List Int)) (x1 : Int) : Option (Int) := fnW laws_heldFm.s laws_heldFm.c (x0, x1)
theorem laws_heldFm.fok : FkS laws_heldFm.s 11 := ⟨Tryz.func11, by kernel_rfl, by kernel_rfl⟩
noncomputable def laws_heldFm.fn (x : Args tab laws_heldFm.s.ar) : Option (ResT tab laws_heldFm.s.rs) := laws_heldFm x.1 x.2
noncomputable abbrev laws_heldFm.k {δ : Type} : Callee (GT tab) δ := kS laws_heldFm.s laws_heldFm.fn
theorem laws_heldFm.con {δ : Type} : Con Tryz.prog (KT tab) 11 (laws_heldFm.k (δ := δ)) := con_shape (c := laws_heldFm.c) mixed tysOk (getG_con (laws_heldFm.gok _)) laws_heldFm.fok rfl rfl fun _ => rfl
theorem laws_heldFm.eq (x0 : Int × Int × Int × (List Int) × (List (Int × (List Int))) × (List Int) × Int × (List Int) × Int × Int × Int × (List Int) × Int × Int × Int × (List Int)) (x1 : Int) : laws_heldFm x0 x1 =
    (laws_heldWave (x0.2.2.1, x0.2.2.2.1, x0.2.2.2.2.1) x1).bind fun y1 =>
    bif decide (y1 < (0 : Int)) then
      some (-1 : Int)
    else
      (laws_heldIntS x0.2.2.2.2.2.1 y1).bind fun y2 =>
      bif decide (y2 < (0 : Int)) then
        some (-1 : Int)
      else
        (laws_heldBits (x0.2.2.2.2.2.2.1, x0.2.2.2.2.2.2.2.1) y2).bind fun y3 =>
        bif decide (y3 < (0 : Int)) then
          some (-1 : Int)
        else
          (laws_heldPacked (x0.2.2.2.2.2.2.2.2.1, x0.2.2.2.2.2.2.2.2.2.1, x0.2.2.2.2.2.2.2.2.2.2.1, x0.2.2.2.2.2.2.2.2.2.2.2.1) y3).bind fun y4 =>
          bif decide (y4 < (0 : Int)) then
            some (-1 : Int)
          else
            (laws_heldPacked x0.2.2.2.2.2.2.2.2.2.2.2.2 y4).bind fun y5 =>
            bif decide (y5 < (0 : Int)) then
              some (-1 : Int)
            else
              some y5 := by kernel_rfl

end Go.Ev.W
