/- What functions of the program come to. -/
import Derived.Test.YtddhebliggkadaaGreatPqT
import Derived.Test.YtddhebliggkadaaGreatPq1
import Derived.Test.YtddhebliggkadaaGreatPq5
namespace Go.Ev.W
open Go.Ev Go.Proofs
set_option maxRecDepth 100000
set_option linter.unusedVariables false

noncomputable abbrev laws_FnFmWalk.s : Sg := ⟨[.lend], [vl 5], ⟨[vb], [none]⟩, Tryz.f4⟩
noncomputable def laws_FnFmWalk.gs (δ : Type) : List (Nat × Callee (GT tab) δ) := [(15, laws_big.k), (20, spec_DrawFmHops.k), (21, impl_FmSa.k), (22, impl_FmHops.k), (23, spec_FmSa.k), (24, spec_FmHops.k), (25, impl_BitAt.k), (26, impl_FmLf.k), (27, impl_PackAt.k), (28, impl_Rank.k), (29, impl_FmIsa.k)]
theorem laws_FnFmWalk.gok (δ : Type) : AllCon Tryz.prog tab (laws_FnFmWalk.gs δ) := .cons laws_big.con (.cons spec_DrawFmHops.con (.cons impl_FmSa.con (.cons impl_FmHops.con (.cons spec_FmSa.con (.cons spec_FmHops.con (.cons impl_BitAt.con (.cons impl_FmLf.con (.cons impl_PackAt.con (.cons impl_Rank.con (.cons impl_FmIsa.con .nil))))))))))
noncomputable def laws_FnFmWalk.c := cx laws_FnFmWalk.s [8] [(8, [3, 4, 5, 6]), (10, [3, 4, 5, 6, 7, 8])] false (laws_FnFmWalk.gs _)
noncomputable def laws_FnFmWalk (x0 : List Int) : Option (Bool) := fnW laws_FnFmWalk.s laws_FnFmWalk.c x0
theorem laws_FnFmWalk.fok : FkS laws_FnFmWalk.s 4 := ⟨Tryz.func4, by kernel_rfl, by kernel_rfl⟩
noncomputable def laws_FnFmWalk.fn (x : Args tab laws_FnFmWalk.s.ar) : Option (ResT tab laws_FnFmWalk.s.rs) := laws_FnFmWalk x
noncomputable abbrev laws_FnFmWalk.as := laws_FnFmWalk.s.ar
noncomputable abbrev laws_FnFmWalk.k {δ : Type} : Callee (GT tab) δ := kS laws_FnFmWalk.s laws_FnFmWalk.fn
theorem laws_FnFmWalk.con {δ : Type} : Con Tryz.prog (KT tab) 4 (laws_FnFmWalk.k (δ := δ)) := con_shape (c := laws_FnFmWalk.c) mixed tysOk (getG_con (laws_FnFmWalk.gok _)) laws_FnFmWalk.fok rfl rfl fun _ => rfl
noncomputable def laws_FnFmWalk_l0 (v0 v1 v2 v3 v4 v5 : Int) (v6 : List Int) (v7 : List (Int × (List Int))) (v8 : List Int) (v9 : Int) (v10 : List Int) (v11 v12 v13 : Int) (v14 : List Int) (v15 v16 v17 : Int) (v18 : List Int) : Option (Bool) := lpW laws_FnFmWalk.s laws_FnFmWalk.c 0 (ud 93 [.undef, .undef, .undef, .ptr 0 0, .int .i64 v0, .int .i64 v1, .int .i64 v2]) [.box 34 [.int .i64 v3, .int .i64 v4, .int .i64 v5, .vs false 3 v6, .vs false 30 v7, .vs false 3 v8, .int .i64 v9, .vs false 126 v10, .int .i64 v11, .int .i64 v12, .int .i64 v13, .vs false 126 v14, .int .i64 v15, .int .i64 v16, .int .i64 v17, .vs false 126 v18]] 1
noncomputable def laws_FnFmWalk_l1 (v0 v1 v2 v3 v4 v5 v6 v7 : Int) (v8 : List Int) (v9 : List (Int × (List Int))) (v10 : List Int) (v11 : Int) (v12 : List Int) (v13 v14 v15 : Int) (v16 : List Int) (v17 v18 v19 : Int) (v20 : List Int) : Option (Bool) := lpW laws_FnFmWalk.s laws_FnFmWalk.c 1 (ud 91 [.undef, .undef, .undef, .ptr 0 0, .int .i64 v0, .int .i64 v1, .int .i64 v2, .int .i64 v3, .int .i64 v4]) [.box 34 [.int .i64 v5, .int .i64 v6, .int .i64 v7, .vs false 3 v8, .vs false 30 v9, .vs false 3 v10, .int .i64 v11, .vs false 126 v12, .int .i64 v13, .int .i64 v14, .int .i64 v15, .vs false 126 v16, .int .i64 v17, .int .i64 v18, .int .i64 v19, .vs false 126 v20]] 1
theorem laws_FnFmWalk.eq (x0 : List Int) : laws_FnFmWalk x0 =
    (laws_big x0).bind fun y1 =>
    bif y1 then
      some true
    else
      (spec_DrawFmHops x0).bind fun y2 =>
      (impl_FmSa y2.1 y2.2).bind fun y3 =>
      (impl_FmHops y2.1 y2.2).bind fun y4 =>
      (spec_FmSa y2.1 y2.2).bind fun y5 =>
      bif y3 != y5 then
        (spec_FmSa y2.1 y2.2).bind fun y6 =>
        bif y3 == y6 then
          (spec_FmHops y2.1 y2.2).bind fun y7 =>
          some (y4 == y7)
        else
          some false
      else
        (spec_FmHops y2.1 y2.2).bind fun y8 =>
        bif y4 != y8 then
          (spec_FmSa y2.1 y2.2).bind fun y9 =>
          bif y3 == y9 then
            (spec_FmHops y2.1 y2.2).bind fun y10 =>
            some (y4 == y10)
          else
            some false
        else
          bif decide (y3 < (0 : Int)) then
            (spec_FmSa y2.1 y2.2).bind fun y11 =>
            bif y3 == y11 then
              (spec_FmHops y2.1 y2.2).bind fun y12 =>
              some (y4 == y12)
            else
              some false
          else
            laws_FnFmWalk_l0 y2.2 y3 y4 y2.1.1 y2.1.2.1 y2.1.2.2.1 y2.1.2.2.2.1 y2.1.2.2.2.2.1 y2.1.2.2.2.2.2.1 y2.1.2.2.2.2.2.2.1 y2.1.2.2.2.2.2.2.2.1 y2.1.2.2.2.2.2.2.2.2.1 y2.1.2.2.2.2.2.2.2.2.2.1 y2.1.2.2.2.2.2.2.2.2.2.2.1 y2.1.2.2.2.2.2.2.2.2.2.2.2.1 y2.1.2.2.2.2.2.2.2.2.2.2.2.2.1 y2.1.2.2.2.2.2.2.2.2.2.2.2.2.2.1 y2.1.2.2.2.2.2.2.2.2.2.2.2.2.2.2.1 y2.1.2.2.2.2.2.2.2.2.2.2.2.2.2.2.2 := by kernel_rfl
theorem laws_FnFmWalk_l0.eq (v0 v1 v2 v3 v4 v5 : Int) (v6 : List Int) (v7 : List (Int × (List Int))) (v8 : List Int) (v9 : Int) (v10 : List Int) (v11 v12 v13 : Int) (v14 : List Int) (v15 v16 v17 : Int) (v18 : List Int) : laws_FnFmWalk_l0 v0 v1 v2 v3 v4 v5 v6 v7 v8 v9 v10 v11 v12 v13 v14 v15 v16 v17 v18 =
    laws_FnFmWalk_l1 v0 v1 v2 v0 (0 : Int) v3 v4 v5 v6 v7 v8 v9 v10 v11 v12 v13 v14 v15 v16 v17 v18 := (Lw_eq tysOk (getG_con (laws_FnFmWalk.gok _)) _ _).trans (by kernel_rfl)
theorem laws_FnFmWalk_l1.eq (v0 v1 v2 v3 v4 v5 v6 v7 : Int) (v8 : List Int) (v9 : List (Int × (List Int))) (v10 : List Int) (v11 : Int) (v12 : List Int) (v13 v14 v15 : Int) (v16 : List Int) (v17 v18 v19 : Int) (v20 : List Int) : laws_FnFmWalk_l1 v0 v1 v2 v3 v4 v5 v6 v7 v8 v9 v10 v11 v12 v13 v14 v15 v16 v17 v18 v19 v20 =
    bif decide (v4 < v2) then
      (impl_BitAt (v11, v12) v3).bind fun y1 =>
      bif y1 != (0 : Int) then
        some false
      else
        (impl_FmLf (v5, v6, v7, v8, v9, v10, v11, v12, v13, v14, v15, v16, v17, v18, v19, v20) v3).bind fun y2 =>
        laws_FnFmWalk_l1 v0 v1 v2 y2 (IntKind.i64.wrap (v4 + (1 : Int))) v5 v6 v7 v8 v9 v10 v11 v12 v13 v14 v15 v16 v17 v18 v19 v20
    else
      (impl_Rank (v11, v12) (1 : Int) v3).bind fun y3 =>
      (impl_PackAt (v13, v14, v15, v16) y3).bind fun y4 =>
      (impl_FmIsa (v5, v6, v7, v8, v9, v10, v11, v12, v13, v14, v15, v16, v17, v18, v19, v20) v1).bind fun y5 =>
      bif y5 == v0 then
        bif decide (v2 < v6) then
          (impl_BitAt (v11, v12) v3).bind fun y6 =>
          bif y6 == (1 : Int) then
            some (IntKind.i64.wrap ((IntKind.i64.wrap (y4 * v6)) + v2) == v1)
          else
            some false
        else
          some false
      else
        some false := (Lw_eq tysOk (getG_con (laws_FnFmWalk.gok _)) _ _).trans (by kernel_rfl)

end Go.Ev.W
