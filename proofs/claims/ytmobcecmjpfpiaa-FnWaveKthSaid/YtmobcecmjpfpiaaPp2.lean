/- What functions of the program come to. -/
import Derived.Test.YtmobcecmjpfpiaaPpT
import Derived.Test.YtmobcecmjpfpiaaPp1
import Derived.Test.YtmobcecmjpfpiaaPp3
import Derived.Test.YtmobcecmjpfpiaaPp4
import Derived.Test.YtmobcecmjpfpiaaPp5
namespace Go.Ev.W
open Go.Ev Go.Proofs
set_option maxRecDepth 100000
set_option linter.unusedVariables false

noncomputable abbrev laws_szPacked.s : Sg := ⟨[.lend, .lend], [.agg [.int .i64, .int .i64, .int .i64, .sl false false 94], vi], ⟨[vi], [none, none]⟩, Try.f41⟩
noncomputable def laws_szPacked.gs (δ : Type) : List (Nat × Callee (GT tab) δ) := [(42, laws_szBits.k)]
theorem laws_szPacked.gok (δ : Type) : AllCon Try.prog tab (laws_szPacked.gs δ) := .cons laws_szBits.con .nil
noncomputable def laws_szPacked.c := cx laws_szPacked.s [] [] false (laws_szPacked.gs _)
noncomputable def laws_szPacked (x0 : Int × Int × Int × (List Int)) (x1 : Int) : Option (Int) := fnW laws_szPacked.s laws_szPacked.c (x0, x1)
theorem laws_szPacked.fok : FkS laws_szPacked.s 41 := ⟨Try.func41, by kernel_rfl, by kernel_rfl⟩
noncomputable def laws_szPacked.fn (x : Args tab laws_szPacked.s.ar) : Option (ResT tab laws_szPacked.s.rs) := laws_szPacked x.1 x.2
noncomputable abbrev laws_szPacked.k {δ : Type} : Callee (GT tab) δ := kS laws_szPacked.s laws_szPacked.fn
theorem laws_szPacked.con {δ : Type} : Con Try.prog (KT tab) 41 (laws_szPacked.k (δ := δ)) := con_shape (c := laws_szPacked.c) mixed tysOk (getG_con (laws_szPacked.gok _)) laws_szPacked.fok rfl rfl fun _ => rfl
theorem laws_szPacked.eq (x0 : Int × Int × Int × (List Int)) (x1 : Int) : laws_szPacked x0 x1 =
    (laws_szBits x0.2.2 x1).bind fun y1 =>
    bif decide (y1 < (0 : Int)) then
      some (-1 : Int)
    else
      some y1 := by kernel_rfl

noncomputable abbrev laws_szSparse.s : Sg := ⟨[.lend, .lend], [.agg [.int .i64, .int .i64, .int .i64, .int .i64, .int .i64, .sl false false 94, .int .i64, .sl false false 94], vi], ⟨[vi], [none, none]⟩, Try.f7⟩
noncomputable def laws_szSparse.gs (δ : Type) : List (Nat × Callee (GT tab) δ) := [(41, laws_szPacked.k), (42, laws_szBits.k)]
theorem laws_szSparse.gok (δ : Type) : AllCon Try.prog tab (laws_szSparse.gs δ) := .cons laws_szPacked.con (.cons laws_szBits.con .nil)
noncomputable def laws_szSparse.c := cx laws_szSparse.s [] [] false (laws_szSparse.gs _)
noncomputable def laws_szSparse (x0 : Int × Int × Int × Int × Int × (List Int) × Int × (List Int)) (x1 : Int) : Option (Int) := fnW laws_szSparse.s laws_szSparse.c (x0, x1)
theorem laws_szSparse.fok : FkS laws_szSparse.s 7 := ⟨Try.func7, by kernel_rfl, by kernel_rfl⟩
noncomputable def laws_szSparse.fn (x : Args tab laws_szSparse.s.ar) : Option (ResT tab laws_szSparse.s.rs) := laws_szSparse x.1 x.2
noncomputable abbrev laws_szSparse.k {δ : Type} : Callee (GT tab) δ := kS laws_szSparse.s laws_szSparse.fn
theorem laws_szSparse.con {δ : Type} : Con Try.prog (KT tab) 7 (laws_szSparse.k (δ := δ)) := con_shape (c := laws_szSparse.c) mixed tysOk (getG_con (laws_szSparse.gok _)) laws_szSparse.fok rfl rfl fun _ => rfl
theorem laws_szSparse.eq (x0 : Int × Int × Int × Int × Int × (List Int) × Int × (List Int)) (x1 : Int) : laws_szSparse x0 x1 =
    (laws_szPacked (x0.2.2.1, x0.2.2.2.1, x0.2.2.2.2.1, x0.2.2.2.2.2.1) x1).bind fun y1 =>
    bif decide (y1 < (0 : Int)) then
      some (-1 : Int)
    else
      (laws_szBits x0.2.2.2.2.2.2 y1).bind fun y2 =>
      bif decide (y2 < (0 : Int)) then
        some (-1 : Int)
      else
        some y2 := by kernel_rfl

noncomputable abbrev laws_toPacked.s : Sg := ⟨[.lend], [.agg [.int .i64, .int .i64, .int .i64, .sl false false 94]], ⟨[.agg [.int .i64, .int .i64, .int .i64, .sl true true 94]], [none]⟩, Try.f45⟩
noncomputable def laws_toPacked.gs (δ : Type) : List (Nat × Callee (GT tab) δ) := [(46, laws_toBits.k)]
theorem laws_toPacked.gok (δ : Type) : AllCon Try.prog tab (laws_toPacked.gs δ) := .cons laws_toBits.con .nil
noncomputable def laws_toPacked.c := cx laws_toPacked.s [] [] false (laws_toPacked.gs _)
noncomputable def laws_toPacked (x0 : Int × Int × Int × (List Int)) : Option (Int × Int × Int × (List Int)) := fnW laws_toPacked.s laws_toPacked.c x0
theorem laws_toPacked.fok : FkS laws_toPacked.s 45 := ⟨Try.func45, by kernel_rfl, by kernel_rfl⟩
noncomputable def laws_toPacked.fn (x : Args tab laws_toPacked.s.ar) : Option (ResT tab laws_toPacked.s.rs) := laws_toPacked x
noncomputable abbrev laws_toPacked.k {δ : Type} : Callee (GT tab) δ := kS laws_toPacked.s laws_toPacked.fn
theorem laws_toPacked.con {δ : Type} : Con Try.prog (KT tab) 45 (laws_toPacked.k (δ := δ)) := con_shape (c := laws_toPacked.c) mixed tysOk (getG_con (laws_toPacked.gok _)) laws_toPacked.fok rfl rfl fun _ => rfl
theorem laws_toPacked.eq (x0 : Int × Int × Int × (List Int)) : laws_toPacked x0 =
    (laws_toBits x0.2.2).bind fun y1 =>
    some (x0.1, x0.2.1, y1.1, y1.2) := by kernel_rfl

noncomputable abbrev laws_toSparse.s : Sg := ⟨[.lend], [.agg [.int .i64, .int .i64, .int .i64, .int .i64, .int .i64, .sl false false 94, .int .i64, .sl false false 94]], ⟨[.agg [.int .i64, .int .i64, .int .i64, .int .i64, .int .i64, .sl true true 94, .int .i64, .sl true true 94]], [none]⟩, Try.f9⟩
noncomputable def laws_toSparse.gs (δ : Type) : List (Nat × Callee (GT tab) δ) := [(45, laws_toPacked.k), (46, laws_toBits.k)]
theorem laws_toSparse.gok (δ : Type) : AllCon Try.prog tab (laws_toSparse.gs δ) := .cons laws_toPacked.con (.cons laws_toBits.con .nil)
noncomputable def laws_toSparse.c := cx laws_toSparse.s [] [] false (laws_toSparse.gs _)
noncomputable def laws_toSparse (x0 : Int × Int × Int × Int × Int × (List Int) × Int × (List Int)) : Option (Int × Int × Int × Int × Int × (List Int) × Int × (List Int)) := fnW laws_toSparse.s laws_toSparse.c x0
theorem laws_toSparse.fok : FkS laws_toSparse.s 9 := ⟨Try.func9, by kernel_rfl, by kernel_rfl⟩
noncomputable def laws_toSparse.fn (x : Args tab laws_toSparse.s.ar) : Option (ResT tab laws_toSparse.s.rs) := laws_toSparse x
noncomputable abbrev laws_toSparse.k {δ : Type} : Callee (GT tab) δ := kS laws_toSparse.s laws_toSparse.fn
theorem laws_toSparse.con {δ : Type} : Con Try.prog (KT tab) 9 (laws_toSparse.k (δ := δ)) := con_shape (c := laws_toSparse.c) mixed tysOk (getG_con (laws_toSparse.gok _)) laws_toSparse.fok rfl rfl fun _ => rfl
theorem laws_toSparse.eq (x0 : Int × Int × Int × Int × Int × (List Int) × Int × (List Int)) : laws_toSparse x0 =
    (laws_toPacked (x0.2.2.1, x0.2.2.2.1, x0.2.2.2.2.1, x0.2.2.2.2.2.1)).bind fun y1 =>
    (laws_toBits x0.2.2.2.2.2.2).bind fun y2 =>
    some (x0.1, x0.2.1, y1.1, y1.2.1, y1.2.2.1, y1.2.2.2, y2.1, y2.2) := by kernel_rfl

noncomputable abbrev spec_PackList.s : Sg := ⟨[.lend], [.agg [.int .i64, .int .i64, .int .i64, .sl false false 94]], ⟨[vo 3], [none]⟩, Try.f87⟩
noncomputable def spec_PackList.gs (δ : Type) : List (Nat × Callee (GT tab) δ) := [(21, spec_PackOk.k), (57, spec_l01List.k)]
theorem spec_PackList.gok (δ : Type) : AllCon Try.prog tab (spec_PackList.gs δ) := .cons spec_PackOk.con (.cons spec_l01List.con .nil)
noncomputable def spec_PackList.c := cx spec_PackList.s [] [(6, [1, 3, 4, 5]), (10, [1, 3, 4, 5, 6, 7])] false (spec_PackList.gs _)
noncomputable def spec_PackList (x0 : Int × Int × Int × (List Int)) : Option (List Int) := fnW spec_PackList.s spec_PackList.c x0
theorem spec_PackList.fok : FkS spec_PackList.s 87 := ⟨Try.func87, by kernel_rfl, by kernel_rfl⟩
noncomputable def spec_PackList.fn (x : Args tab spec_PackList.s.ar) : Option (ResT tab spec_PackList.s.rs) := spec_PackList x
noncomputable abbrev spec_PackList.k {δ : Type} : Callee (GT tab) δ := kS spec_PackList.s spec_PackList.fn
theorem spec_PackList.con {δ : Type} : Con Try.prog (KT tab) 87 (spec_PackList.k (δ := δ)) := con_shape (c := spec_PackList.c) mixed tysOk (getG_con (spec_PackList.gok _)) spec_PackList.fok rfl rfl fun _ => rfl
noncomputable def spec_PackList_l0 (v0 v1 v2 v3 : Int) (v4 v5 v6 : List Int) : Option (List Int) := lpW spec_PackList.s spec_PackList.c 0 (ud 39 [.undef, .ptr 0 0, .undef, .sl 1 0, .sl 2 0, .int .i64 v0]) [.box 34 [.int .i64 v1, .int .i64 v2, .int .i64 v3, .vs false 94 v4], .row 0 true 3 v5, .row 0 true 3 v6] 3
noncomputable def spec_PackList_l1 (v0 v1 v2 v3 v4 v5 : Int) (v6 v7 v8 : List Int) : Option (List Int) := lpW spec_PackList.s spec_PackList.c 1 (ud 37 [.undef, .ptr 0 0, .undef, .sl 1 0, .sl 2 0, .int .i64 v0, .int .i64 v1, .int .i64 v2]) [.box 34 [.int .i64 v3, .int .i64 v4, .int .i64 v5, .vs false 94 v6], .row 0 true 3 v7, .row 0 true 3 v8] 3
theorem spec_PackList.eq (x0 : Int × Int × Int × (List Int)) : spec_PackList x0 =
    (spec_PackOk x0).bind fun y1 =>
    bif !y1 then
      some ([] : List Int)
    else
      (spec_l01List x0.2.2).bind fun y2 =>
      spec_PackList_l0 (0 : Int) x0.1 x0.2.1 x0.2.2.1 x0.2.2.2 y2 ([] : List Int) := by kernel_rfl
theorem spec_PackList_l0.eq (v0 v1 v2 v3 : Int) (v4 v5 v6 : List Int) : spec_PackList_l0 v0 v1 v2 v3 v4 v5 v6 =
    bif decide (v0 < v2) then
      spec_PackList_l1 v0 (0 : Int) (IntKind.i64.wrap (v1 - (1 : Int))) v1 v2 v3 v4 v5 v6
    else
      some v6 := (Lw_eq tysOk (getG_con (spec_PackList.gok _)) _ _).trans (by kernel_rfl)
theorem spec_PackList_l1.eq (v0 v1 v2 v3 v4 v5 : Int) (v6 v7 v8 : List Int) : spec_PackList_l1 v0 v1 v2 v3 v4 v5 v6 v7 v8 =
    bif decide (v2 ≥ (0 : Int)) then
      (at? v7 (IntKind.i64.wrap ((IntKind.i64.wrap (v0 * v3)) + v2))).bind fun y1 =>
      v7[(IntKind.i64.wrap ((IntKind.i64.wrap (v0 * v3)) + v2)).toNat]?.bind fun y2 =>
      spec_PackList_l1 v0 (IntKind.i64.wrap ((IntKind.i64.wrap ((2 : Int) * v1)) + y2)) (IntKind.i64.wrap (v2 - (1 : Int))) v3 v4 v5 v6 v7 v8
    else
      bif decide ((v8.length + ([v1] : List Int).length) * 8 ≤ 140737488355328) then
        spec_PackList_l0 (IntKind.i64.wrap (v0 + (1 : Int))) v3 v4 v5 v6 v7 (v8 ++ ([v1] : List Int))
      else
        none := (Lw_eq tysOk (getG_con (spec_PackList.gok _)) _ _).trans (by kernel_rfl)

noncomputable abbrev spec_l03List.s : Sg := ⟨[.lend], [.agg [.int .i64, .int .i64, .int .i64, .int .i64, .int .i64, .sl false false 94, .int .i64, .sl false false 94]], ⟨[vo 3], [none]⟩, Try.f44⟩
noncomputable def spec_l03List.gs (δ : Type) : List (Nat × Callee (GT tab) δ) := [(57, spec_l01List.k), (87, spec_PackList.k), (88, spec_l02Pow.k)]
theorem spec_l03List.gok (δ : Type) : AllCon Try.prog tab (spec_l03List.gs δ) := .cons spec_l01List.con (.cons spec_PackList.con (.cons spec_l02Pow.con .nil))
noncomputable def spec_l03List.c := cx spec_l03List.s [] [(6, [1, 3, 4, 5, 6, 7])] false (spec_l03List.gs _)
noncomputable def spec_l03List (x0 : Int × Int × Int × Int × Int × (List Int) × Int × (List Int)) : Option (List Int) := fnW spec_l03List.s spec_l03List.c x0
theorem spec_l03List.fok : FkS spec_l03List.s 44 := ⟨Try.func44, by kernel_rfl, by kernel_rfl⟩
noncomputable def spec_l03List.fn (x : Args tab spec_l03List.s.ar) : Option (ResT tab spec_l03List.s.rs) := spec_l03List x
noncomputable abbrev spec_l03List.k {δ : Type} : Callee (GT tab) δ := kS spec_l03List.s spec_l03List.fn
theorem spec_l03List.con {δ : Type} : Con Try.prog (KT tab) 44 (spec_l03List.k (δ := δ)) := con_shape (c := spec_l03List.c) mixed tysOk (getG_con (spec_l03List.gok _)) spec_l03List.fok rfl rfl fun _ => rfl
noncomputable def spec_l03List_l0 (v0 v1 v2 v3 v4 v5 v6 : Int) (v7 : List Int) (v8 : Int) (v9 v10 v11 v12 : List Int) : Option (List Int) := lpW spec_l03List.s spec_l03List.c 0 (ud 41 [.undef, .ptr 0 0, .undef, .sl 1 0, .sl 2 0, .sl 3 0, .int .i64 v0, .int .i64 v1]) [.box 36 [.int .i64 v2, .int .i64 v3, .int .i64 v4, .int .i64 v5, .int .i64 v6, .vs false 94 v7, .int .i64 v8, .vs false 94 v9], .row 0 true 3 v10, .row 0 true 3 v11, .row 0 true 3 v12] 4
theorem spec_l03List.eq (x0 : Int × Int × Int × Int × Int × (List Int) × Int × (List Int)) : spec_l03List x0 =
    (spec_PackList (x0.2.2.1, x0.2.2.2.1, x0.2.2.2.2.1, x0.2.2.2.2.2.1)).bind fun y1 =>
    (spec_l01List x0.2.2.2.2.2.2).bind fun y2 =>
    spec_l03List_l0 (0 : Int) (0 : Int) x0.1 x0.2.1 x0.2.2.1 x0.2.2.2.1 x0.2.2.2.2.1 x0.2.2.2.2.2.1 x0.2.2.2.2.2.2.1 x0.2.2.2.2.2.2.2 ([] : List Int) y1 y2 := by kernel_rfl
theorem spec_l03List_l0.eq (v0 v1 v2 v3 v4 v5 v6 : Int) (v7 : List Int) (v8 : Int) (v9 v10 v11 v12 : List Int) : spec_l03List_l0 v0 v1 v2 v3 v4 v5 v6 v7 v8 v9 v10 v11 v12 =
    bif decide (v1 < (v12.length : Int)) then
      (at? v12 v1).bind fun y1 =>
      v12[v1.toNat]?.bind fun y2 =>
      bif y2 == (0 : Int) then
        spec_l03List_l0 (IntKind.i64.wrap (v0 + (1 : Int))) (IntKind.i64.wrap (v1 + (1 : Int))) v2 v3 v4 v5 v6 v7 v8 v9 v10 v11 v12
      else
        bif decide ((v10.length : Int) < (v11.length : Int)) then
          (spec_l02Pow v4).bind fun y3 =>
          (at? v11 (v10.length : Int)).bind fun y4 =>
          v11[(v10.length : Int).toNat]?.bind fun y5 =>
          bif decide ((v10.length + ([IntKind.i64.wrap ((IntKind.i64.wrap (v0 * y3)) + y5)] : List Int).length) * 8 ≤ 140737488355328) then
            spec_l03List_l0 v0 (IntKind.i64.wrap (v1 + (1 : Int))) v2 v3 v4 v5 v6 v7 v8 v9 (v10 ++ ([IntKind.i64.wrap ((IntKind.i64.wrap (v0 * y3)) + y5)] : List Int)) v11 v12
          else
            none
        else
          spec_l03List_l0 v0 (IntKind.i64.wrap (v1 + (1 : Int))) v2 v3 v4 v5 v6 v7 v8 v9 v10 v11 v12
    else
      some v10 := (Lw_eq tysOk (getG_con (spec_l03List.gok _)) _ _).trans (by kernel_rfl)

noncomputable abbrev spec_WidthOf.s : Sg := ⟨[.lend], [vi], ⟨[vi], [none]⟩, Try.f128⟩
noncomputable def spec_WidthOf.gs (δ : Type) : List (Nat × Callee (GT tab) δ) := []
theorem spec_WidthOf.gok (δ : Type) : AllCon Try.prog tab (spec_WidthOf.gs δ) := .nil
noncomputable def spec_WidthOf.c := cx spec_WidthOf.s [] [(4, [0, 3])] false (spec_WidthOf.gs _)
noncomputable def spec_WidthOf (x0 : Int) : Option (Int) := fnW spec_WidthOf.s spec_WidthOf.c x0
theorem spec_WidthOf.fok : FkS spec_WidthOf.s 128 := ⟨Try.func128, by kernel_rfl, by kernel_rfl⟩
noncomputable def spec_WidthOf.fn (x : Args tab spec_WidthOf.s.ar) : Option (ResT tab spec_WidthOf.s.rs) := spec_WidthOf x
noncomputable abbrev spec_WidthOf.k {δ : Type} : Callee (GT tab) δ := kS spec_WidthOf.s spec_WidthOf.fn
theorem spec_WidthOf.con {δ : Type} : Con Try.prog (KT tab) 128 (spec_WidthOf.k (δ := δ)) := con_shape (c := spec_WidthOf.c) mixed tysOk (getG_con (spec_WidthOf.gok _)) spec_WidthOf.fok rfl rfl fun _ => rfl
noncomputable def spec_WidthOf_l0 (v0 v1 : Int) : Option (Int) := lpW spec_WidthOf.s spec_WidthOf.c 0 (ud 9 [.int .i64 v0, .undef, .undef, .int .i64 v1]) [] 0
theorem spec_WidthOf.eq (x0 : Int) : spec_WidthOf x0 =
    bif decide (x0 < (0 : Int)) then
      some (-1 : Int)
    else
      spec_WidthOf_l0 x0 (0 : Int) := by kernel_rfl
theorem spec_WidthOf_l0.eq (v0 v1 : Int) : spec_WidthOf_l0 v0 v1 =
    bif decide (v0 > (0 : Int)) then
      spec_WidthOf_l0 (IntKind.i64.wrap (v0.tdiv (2 : Int))) (IntKind.i64.wrap (v1 + (1 : Int)))
    else
      some v1 := (Lw_eq tysOk (getG_con (spec_WidthOf.gok _)) _ _).trans (by kernel_rfl)

noncomputable abbrev spec_l03Width.s : Sg := ⟨[.lend, .lend], [vi, vi], ⟨[vi], [none, none]⟩, Try.f112⟩
noncomputable def spec_l03Width.gs (δ : Type) : List (Nat × Callee (GT tab) δ) := [(128, spec_WidthOf.k)]
theorem spec_l03Width.gok (δ : Type) : AllCon Try.prog tab (spec_l03Width.gs δ) := .cons spec_WidthOf.con .nil
noncomputable def spec_l03Width.c := cx spec_l03Width.s [] [] false (spec_l03Width.gs _)
noncomputable def spec_l03Width (x0 x1 : Int) : Option (Int) := fnW spec_l03Width.s spec_l03Width.c (x0, x1)
theorem spec_l03Width.fok : FkS spec_l03Width.s 112 := ⟨Try.func112, by kernel_rfl, by kernel_rfl⟩
noncomputable def spec_l03Width.fn (x : Args tab spec_l03Width.s.ar) : Option (ResT tab spec_l03Width.s.rs) := spec_l03Width x.1 x.2
noncomputable abbrev spec_l03Width.k {δ : Type} : Callee (GT tab) δ := kS spec_l03Width.s spec_l03Width.fn
theorem spec_l03Width.con {δ : Type} : Con Try.prog (KT tab) 112 (spec_l03Width.k (δ := δ)) := con_shape (c := spec_l03Width.c) mixed tysOk (getG_con (spec_l03Width.gok _)) spec_l03Width.fok rfl rfl fun _ => rfl
theorem spec_l03Width.eq (x0 x1 : Int) : spec_l03Width x0 x1 =
    bif x0 == (0 : Int) then
      some (0 : Int)
    else
      bif decide (x0 = (0 : Int)) then
        none
      else
        (spec_WidthOf (IntKind.i64.wrap (x1.tdiv x0))).bind fun y1 =>
        some (if IntKind.i64.wrap (y1 - (1 : Int)) > (0 : Int) then IntKind.i64.wrap (y1 - (1 : Int)) else (0 : Int)) := by kernel_rfl

noncomputable abbrev spec_SparseOf.s : Sg := ⟨[.lend, .lend], [vl 3, vi], ⟨[.agg [.int .i64, .int .i64, .int .i64, .int .i64, .int .i64, .sl true true 94, .int .i64, .sl true true 94], vb], [none, none]⟩, Try.f85⟩
noncomputable def spec_SparseOf.gs (δ : Type) : List (Nat × Callee (GT tab) δ) := [(56, spec_BitsOf.k), (88, spec_l02Pow.k), (98, spec_PackOf.k), (112, spec_l03Width.k)]
theorem spec_SparseOf.gok (δ : Type) : AllCon Try.prog tab (spec_SparseOf.gs δ) := .cons spec_BitsOf.con (.cons spec_l02Pow.con (.cons spec_PackOf.con (.cons spec_l03Width.con .nil)))
noncomputable def spec_SparseOf.c := cx spec_SparseOf.s [3, 15, 16] [(3, [0, 1, 4]), (4, [0, 1, 4, 6]), (13, [0, 1, 4, 7, 8, 9, 10, 11]), (15, [0, 1, 4, 7, 8, 9, 10, 11]), (16, [0, 1, 4, 7, 8, 9, 10, 11])] false (spec_SparseOf.gs _)
noncomputable def spec_SparseOf (x0 : List Int) (x1 : Int) : Option ((Int × Int × Int × Int × Int × (List Int) × Int × (List Int)) × Bool) := fnW spec_SparseOf.s spec_SparseOf.c (x0, x1)
theorem spec_SparseOf.fok : FkS spec_SparseOf.s 85 := ⟨Try.func85, by kernel_rfl, by kernel_rfl⟩
noncomputable def spec_SparseOf.fn (x : Args tab spec_SparseOf.s.ar) : Option (ResT tab spec_SparseOf.s.rs) := spec_SparseOf x.1 x.2
noncomputable abbrev spec_SparseOf.k {δ : Type} : Callee (GT tab) δ := kS spec_SparseOf.s spec_SparseOf.fn
theorem spec_SparseOf.con {δ : Type} : Con Try.prog (KT tab) 85 (spec_SparseOf.k (δ := δ)) := con_shape (c := spec_SparseOf.c) mixed tysOk (getG_con (spec_SparseOf.gok _)) spec_SparseOf.fok rfl rfl fun _ => rfl
noncomputable def spec_SparseOf_l0 (v0 : List Int) (v1 v2 v3 v4 v5 v6 v7 : Int) (v8 v9 : List Int) : Option ((Int × Int × Int × Int × Int × (List Int) × Int × (List Int)) × Bool) := lpW spec_SparseOf.s spec_SparseOf.c 0 (ud 136 [.vs false 3 v0, .int .i64 v1, .undef, .undef, .ptr 0 0]) [.box 36 [.int .i64 v2, .int .i64 v3, .int .i64 v4, .int .i64 v5, .int .i64 v6, .sl 1 0, .int .i64 v7, .sl 2 0], .row 0 true 94 v8, .row 0 true 94 v9] 3
noncomputable def spec_SparseOf_l1 (v0 : List Int) (v1 v2 v3 v4 v5 v6 v7 v8 : Int) (v9 v10 : List Int) : Option ((Int × Int × Int × Int × Int × (List Int) × Int × (List Int)) × Bool) := lpW spec_SparseOf.s spec_SparseOf.c 1 (ud 134 [.vs false 3 v0, .int .i64 v1, .undef, .undef, .ptr 0 0, .undef, .int .i64 v2]) [.box 36 [.int .i64 v3, .int .i64 v4, .int .i64 v5, .int .i64 v6, .int .i64 v7, .sl 1 0, .int .i64 v8, .sl 2 0], .row 0 true 94 v9, .row 0 true 94 v10] 3
noncomputable def spec_SparseOf_l2 (v0 : List Int) (v1 v2 v3 v4 v5 v6 v7 v8 v9 v10 : Int) (v11 v12 v13 v14 : List Int) : Option ((Int × Int × Int × Int × Int × (List Int) × Int × (List Int)) × Bool) := lpW spec_SparseOf.s spec_SparseOf.c 2 (ud 129 [.vs false 3 v0, .int .i64 v1, .undef, .undef, .ptr 0 0, .undef, .undef, .int .i64 v2, .sl 3 0, .sl 4 0, .int .i64 v3, .int .i64 v4]) [.box 36 [.int .i64 v5, .int .i64 v6, .int .i64 v7, .int .i64 v8, .int .i64 v9, .sl 1 0, .int .i64 v10, .sl 2 0], .row 0 true 94 v11, .row 0 true 94 v12, .row 0 true 3 v13, .row 0 true 3 v14] 5
noncomputable def spec_SparseOf_l3 (v0 : List Int) (v1 v2 v3 v4 v5 v6 v7 v8 v9 v10 : Int) (v11 v12 v13 v14 : List Int) : Option ((Int × Int × Int × Int × Int × (List Int) × Int × (List Int)) × Bool) := lpW spec_SparseOf.s spec_SparseOf.c 3 (ud 129 [.vs false 3 v0, .int .i64 v1, .undef, .undef, .ptr 0 0, .undef, .undef, .int .i64 v2, .sl 3 0, .sl 4 0, .int .i64 v3, .int .i64 v4]) [.box 36 [.int .i64 v5, .int .i64 v6, .int .i64 v7, .int .i64 v8, .int .i64 v9, .sl 1 0, .int .i64 v10, .sl 2 0], .row 0 true 94 v11, .row 0 true 94 v12, .row 0 true 3 v13, .row 0 true 3 v14] 5
noncomputable def spec_SparseOf_l4 (v0 : List Int) (v1 v2 v3 v4 v5 v6 v7 v8 v9 v10 : Int) (v11 v12 v13 v14 : List Int) : Option ((Int × Int × Int × Int × Int × (List Int) × Int × (List Int)) × Bool) := lpW spec_SparseOf.s spec_SparseOf.c 4 (ud 129 [.vs false 3 v0, .int .i64 v1, .undef, .undef, .ptr 0 0, .undef, .undef, .int .i64 v2, .sl 3 0, .sl 4 0, .int .i64 v3, .int .i64 v4]) [.box 36 [.int .i64 v5, .int .i64 v6, .int .i64 v7, .int .i64 v8, .int .i64 v9, .sl 1 0, .int .i64 v10, .sl 2 0], .row 0 true 94 v11, .row 0 true 94 v12, .row 0 true 3 v13, .row 0 true 3 v14] 5
noncomputable def spec_SparseOf_l5 (v0 : List Int) (v1 v2 v3 v4 v5 v6 v7 v8 v9 v10 : Int) (v11 v12 v13 v14 : List Int) : Option ((Int × Int × Int × Int × Int × (List Int) × Int × (List Int)) × Bool) := lpW spec_SparseOf.s spec_SparseOf.c 5 (ud 129 [.vs false 3 v0, .int .i64 v1, .undef, .undef, .ptr 0 0, .undef, .undef, .int .i64 v2, .sl 3 0, .sl 4 0, .int .i64 v3, .int .i64 v4]) [.box 36 [.int .i64 v5, .int .i64 v6, .int .i64 v7, .int .i64 v8, .int .i64 v9, .sl 1 0, .int .i64 v10, .sl 2 0], .row 0 true 94 v11, .row 0 true 94 v12, .row 0 true 3 v13, .row 0 true 3 v14] 5
theorem spec_SparseOf.eq (x0 : List Int) (x1 : Int) : spec_SparseOf x0 x1 =
    bif decide (x1 < (0 : Int)) then
      some (((0 : Int), (0 : Int), (0 : Int), (0 : Int), (0 : Int), ([] : List Int), (0 : Int), ([] : List Int)), false)
    else
      bif decide (x1 > (1000000 : Int)) then
        some (((0 : Int), (0 : Int), (0 : Int), (0 : Int), (0 : Int), ([] : List Int), (0 : Int), ([] : List Int)), false)
      else
        bif decide ((x0.length : Int) > (5000 : Int)) then
          some (((0 : Int), (0 : Int), (0 : Int), (0 : Int), (0 : Int), ([] : List Int), (0 : Int), ([] : List Int)), false)
        else
          spec_SparseOf_l0 x0 x1 (0 : Int) (0 : Int) (0 : Int) (0 : Int) (0 : Int) (0 : Int) ([] : List Int) ([] : List Int) := by kernel_rfl
theorem spec_SparseOf_l0.eq (v0 : List Int) (v1 v2 v3 v4 v5 v6 v7 : Int) (v8 v9 : List Int) : spec_SparseOf_l0 v0 v1 v2 v3 v4 v5 v6 v7 v8 v9 =
    spec_SparseOf_l1 v0 v1 (0 : Int) v2 v3 v4 v5 v6 v7 v8 v9 := (Lw_eq tysOk (getG_con (spec_SparseOf.gok _)) _ _).trans (by kernel_rfl)
theorem spec_SparseOf_l1.eq (v0 : List Int) (v1 v2 v3 v4 v5 v6 v7 v8 : Int) (v9 v10 : List Int) : spec_SparseOf_l1 v0 v1 v2 v3 v4 v5 v6 v7 v8 v9 v10 =
    bif decide (v2 < (v0.length : Int)) then
      (at? v0 v2).bind fun y1 =>
      bif decide (y1 < (0 : Int)) then
        some (((0 : Int), (0 : Int), (0 : Int), (0 : Int), (0 : Int), ([] : List Int), (0 : Int), ([] : List Int)), false)
      else
        (at? v0 v2).bind fun y2 =>
        bif decide (y2 ≥ v1) then
          some (((0 : Int), (0 : Int), (0 : Int), (0 : Int), (0 : Int), ([] : List Int), (0 : Int), ([] : List Int)), false)
        else
          bif decide (v2 > (0 : Int)) then
            (at? v0 (IntKind.i64.wrap (v2 - (1 : Int)))).bind fun y3 =>
            (at? v0 v2).bind fun y4 =>
            bif decide (y3 > y4) then
              some (((0 : Int), (0 : Int), (0 : Int), (0 : Int), (0 : Int), ([] : List Int), (0 : Int), ([] : List Int)), false)
            else
              spec_SparseOf_l1 v0 v1 (IntKind.i64.wrap (v2 + (1 : Int))) v3 v4 v5 v6 v7 v8 v9 v10
          else
            spec_SparseOf_l1 v0 v1 (IntKind.i64.wrap (v2 + (1 : Int))) v3 v4 v5 v6 v7 v8 v9 v10
    else
      (spec_l03Width (v0.length : Int) v1).bind fun y5 =>
      (spec_l02Pow y5).bind fun y6 =>
      spec_SparseOf_l2 v0 v1 y6 (0 : Int) (0 : Int) v3 v4 v5 v6 v7 v8 v9 v10 ([] : List Int) ([] : List Int) := (Lw_eq tysOk (getG_con (spec_SparseOf.gok _)) _ _).trans (by kernel_rfl)
theorem spec_SparseOf_l2.eq (v0 : List Int) (v1 v2 v3 v4 v5 v6 v7 v8 v9 v10 : Int) (v11 v12 v13 v14 : List Int) : spec_SparseOf_l2 v0 v1 v2 v3 v4 v5 v6 v7 v8 v9 v10 v11 v12 v13 v14 =
    bif decide (v2 = (0 : Int)) then
      none
    else
      bif decide (v4 ≤ IntKind.i64.wrap (v1.tdiv v2)) then
        bif decide ((v14.length : Int) ≤ (5000 : Int)) then
          spec_SparseOf_l3 v0 v1 v2 v3 v4 v5 v6 v7 v8 v9 v10 v11 v12 v13 v14
        else
          (spec_l03Width (v0.length : Int) v1).bind fun y1 =>
          (spec_PackOf v13 y1).bind fun y2 =>
          (spec_BitsOf v14).bind fun y3 =>
          bif !y2.2 then
            some (((0 : Int), (0 : Int), (0 : Int), (0 : Int), (0 : Int), ([] : List Int), (0 : Int), ([] : List Int)), false)
          else
            bif !y3.2 then
              some (((0 : Int), (0 : Int), (0 : Int), (0 : Int), (0 : Int), ([] : List Int), (0 : Int), ([] : List Int)), false)
            else
              some ((v1, (v0.length : Int), y2.1.1, y2.1.2.1, y2.1.2.2.1, y2.1.2.2.2, y3.1.1, y3.1.2), true)
      else
        (spec_l03Width (v0.length : Int) v1).bind fun y4 =>
        (spec_PackOf v13 y4).bind fun y5 =>
        (spec_BitsOf v14).bind fun y6 =>
        bif !y5.2 then
          some (((0 : Int), (0 : Int), (0 : Int), (0 : Int), (0 : Int), ([] : List Int), (0 : Int), ([] : List Int)), false)
        else
          bif !y6.2 then
            some (((0 : Int), (0 : Int), (0 : Int), (0 : Int), (0 : Int), ([] : List Int), (0 : Int), ([] : List Int)), false)
          else
            some ((v1, (v0.length : Int), y5.1.1, y5.1.2.1, y5.1.2.2.1, y5.1.2.2.2, y6.1.1, y6.1.2), true) := (Lw_eq tysOk (getG_con (spec_SparseOf.gok _)) _ _).trans (by kernel_rfl)
theorem spec_SparseOf_l3.eq (v0 : List Int) (v1 v2 v3 v4 v5 v6 v7 v8 v9 v10 : Int) (v11 v12 v13 v14 : List Int) : spec_SparseOf_l3 v0 v1 v2 v3 v4 v5 v6 v7 v8 v9 v10 v11 v12 v13 v14 =
    spec_SparseOf_l4 v0 v1 v2 v3 v4 v5 v6 v7 v8 v9 v10 v11 v12 v13 v14 := (Lw_eq tysOk (getG_con (spec_SparseOf.gok _)) _ _).trans (by kernel_rfl)
theorem spec_SparseOf_l4.eq (v0 : List Int) (v1 v2 v3 v4 v5 v6 v7 v8 v9 v10 : Int) (v11 v12 v13 v14 : List Int) : spec_SparseOf_l4 v0 v1 v2 v3 v4 v5 v6 v7 v8 v9 v10 v11 v12 v13 v14 =
    bif decide (v3 < (v0.length : Int)) then
      (at? v0 v3).bind fun y1 =>
      bif decide (v2 = (0 : Int)) then
        none
      else
        bif IntKind.i64.wrap (y1.tdiv v2) == v4 then
          spec_SparseOf_l5 v0 v1 v2 v3 v4 v5 v6 v7 v8 v9 v10 v11 v12 v13 v14
        else
          bif decide ((v14.length + ([(0 : Int)] : List Int).length) * 8 ≤ 140737488355328) then
            spec_SparseOf_l2 v0 v1 v2 v3 (IntKind.i64.wrap (v4 + (1 : Int))) v5 v6 v7 v8 v9 v10 v11 v12 v13 (v14 ++ ([(0 : Int)] : List Int))
          else
            none
    else
      bif decide ((v14.length + ([(0 : Int)] : List Int).length) * 8 ≤ 140737488355328) then
        spec_SparseOf_l2 v0 v1 v2 v3 (IntKind.i64.wrap (v4 + (1 : Int))) v5 v6 v7 v8 v9 v10 v11 v12 v13 (v14 ++ ([(0 : Int)] : List Int))
      else
        none := (Lw_eq tysOk (getG_con (spec_SparseOf.gok _)) _ _).trans (by kernel_rfl)
theorem spec_SparseOf_l5.eq (v0 : List Int) (v1 v2 v3 v4 v5 v6 v7 v8 v9 v10 : Int) (v11 v12 v13 v14 : List Int) : spec_SparseOf_l5 v0 v1 v2 v3 v4 v5 v6 v7 v8 v9 v10 v11 v12 v13 v14 =
    (at? v0 v3).bind fun y1 =>
    bif decide (v2 = (0 : Int)) then
      none
    else
      bif decide ((v13.length + ([y1.tmod v2] : List Int).length) * 8 ≤ 140737488355328) then
        bif decide ((v14.length + ([(1 : Int)] : List Int).length) * 8 ≤ 140737488355328) then
          spec_SparseOf_l4 v0 v1 v2 (IntKind.i64.wrap (v3 + (1 : Int))) v4 v5 v6 v7 v8 v9 v10 v11 v12 (v13 ++ ([y1.tmod v2] : List Int)) (v14 ++ ([(1 : Int)] : List Int))
        else
          none
      else
        none := (Lw_eq tysOk (getG_con (spec_SparseOf.gok _)) _ _).trans (by kernel_rfl)

noncomputable abbrev spec_l03Same.s : Sg := ⟨[.lend, .lend], [.agg [.int .i64, .sl false false 94], .agg [.int .i64, .sl false false 94]], ⟨[vb], [none, none]⟩, Try.f86⟩
noncomputable def spec_l03Same.gs (δ : Type) : List (Nat × Callee (GT tab) δ) := []
theorem spec_l03Same.gok (δ : Type) : AllCon Try.prog tab (spec_l03Same.gs δ) := .nil
noncomputable def spec_l03Same.c := cx spec_l03Same.s [3] [(3, [2, 3]), (4, [2, 3, 5])] false (spec_l03Same.gs _)
noncomputable def spec_l03Same (x0 x1 : Int × (List Int)) : Option (Bool) := fnW spec_l03Same.s spec_l03Same.c (x0, x1)
theorem spec_l03Same.fok : FkS spec_l03Same.s 86 := ⟨Try.func86, by kernel_rfl, by kernel_rfl⟩
noncomputable def spec_l03Same.fn (x : Args tab spec_l03Same.s.ar) : Option (ResT tab spec_l03Same.s.rs) := spec_l03Same x.1 x.2
noncomputable abbrev spec_l03Same.k {δ : Type} : Callee (GT tab) δ := kS spec_l03Same.s spec_l03Same.fn
theorem spec_l03Same.con {δ : Type} : Con Try.prog (KT tab) 86 (spec_l03Same.k (δ := δ)) := con_shape (c := spec_l03Same.c) mixed tysOk (getG_con (spec_l03Same.gok _)) spec_l03Same.fok rfl rfl fun _ => rfl
noncomputable def spec_l03Same_l0 (v0 : Int) (v1 : List Int) (v2 : Int) (v3 : List Int) : Option (Bool) := lpW spec_l03Same.s spec_l03Same.c 0 (ud 34 [.undef, .undef, .ptr 0 0, .ptr 1 0]) [.box 32 [.int .i64 v0, .vs false 94 v1], .box 32 [.int .i64 v2, .vs false 94 v3]] 2
noncomputable def spec_l03Same_l1 (v0 v1 : Int) (v2 : List Int) (v3 : Int) (v4 : List Int) : Option (Bool) := lpW spec_l03Same.s spec_l03Same.c 1 (ud 32 [.undef, .undef, .ptr 0 0, .ptr 1 0, .undef, .int .i64 v0]) [.box 32 [.int .i64 v1, .vs false 94 v2], .box 32 [.int .i64 v3, .vs false 94 v4]] 2
theorem spec_l03Same.eq (x0 x1 : Int × (List Int)) : spec_l03Same x0 x1 =
    bif x0.1 != x1.1 then
      some false
    else
      bif (x0.2.length : Int) != (x1.2.length : Int) then
        some false
      else
        spec_l03Same_l0 x0.1 x0.2 x1.1 x1.2 := by kernel_rfl
theorem spec_l03Same_l0.eq (v0 : Int) (v1 : List Int) (v2 : Int) (v3 : List Int) : spec_l03Same_l0 v0 v1 v2 v3 =
    spec_l03Same_l1 (0 : Int) v0 v1 v2 v3 := (Lw_eq tysOk (getG_con (spec_l03Same.gok _)) _ _).trans (by kernel_rfl)
theorem spec_l03Same_l1.eq (v0 v1 : Int) (v2 : List Int) (v3 : Int) (v4 : List Int) : spec_l03Same_l1 v0 v1 v2 v3 v4 =
    bif decide (v0 < (v2.length : Int)) then
      (at? v2 v0).bind fun y1 =>
      (at? v4 v0).bind fun y2 =>
      bif y1 != y2 then
        some false
      else
        spec_l03Same_l1 (IntKind.i64.wrap (v0 + (1 : Int))) v1 v2 v3 v4
    else
      some true := (Lw_eq tysOk (getG_con (spec_l03Same.gok _)) _ _).trans (by kernel_rfl)

noncomputable abbrev spec_SparseOk.s : Sg := ⟨[.lend], [.agg [.int .i64, .int .i64, .int .i64, .int .i64, .int .i64, .sl false false 94, .int .i64, .sl false false 94]], ⟨[vb], [none]⟩, Try.f43⟩
noncomputable def spec_SparseOk.gs (δ : Type) : List (Nat × Callee (GT tab) δ) := [(20, spec_BitsOk.k), (21, spec_PackOk.k), (44, spec_l03List.k), (85, spec_SparseOf.k), (86, spec_l03Same.k)]
theorem spec_SparseOk.gok (δ : Type) : AllCon Try.prog tab (spec_SparseOk.gs δ) := .cons spec_BitsOk.con (.cons spec_PackOk.con (.cons spec_l03List.con (.cons spec_SparseOf.con (.cons spec_l03Same.con .nil))))
noncomputable def spec_SparseOk.c := cx spec_SparseOk.s [] [] false (spec_SparseOk.gs _)
noncomputable def spec_SparseOk (x0 : Int × Int × Int × Int × Int × (List Int) × Int × (List Int)) : Option (Bool) := fnW spec_SparseOk.s spec_SparseOk.c x0
theorem spec_SparseOk.fok : FkS spec_SparseOk.s 43 := ⟨Try.func43, by kernel_rfl, by kernel_rfl⟩
noncomputable def spec_SparseOk.fn (x : Args tab spec_SparseOk.s.ar) : Option (ResT tab spec_SparseOk.s.rs) := spec_SparseOk x
noncomputable abbrev spec_SparseOk.k {δ : Type} : Callee (GT tab) δ := kS spec_SparseOk.s spec_SparseOk.fn
theorem spec_SparseOk.con {δ : Type} : Con Try.prog (KT tab) 43 (spec_SparseOk.k (δ := δ)) := con_shape (c := spec_SparseOk.c) mixed tysOk (getG_con (spec_SparseOk.gok _)) spec_SparseOk.fok rfl rfl fun _ => rfl
theorem spec_SparseOk.eq (x0 : Int × Int × Int × Int × Int × (List Int) × Int × (List Int)) : spec_SparseOk x0 =
    (spec_PackOk (x0.2.2.1, x0.2.2.2.1, x0.2.2.2.2.1, x0.2.2.2.2.2.1)).bind fun y1 =>
    bif !y1 then
      some false
    else
      (spec_BitsOk x0.2.2.2.2.2.2).bind fun y2 =>
      bif !y2 then
        some false
      else
        bif decide (x0.2.2.1 > (20 : Int)) then
          some false
        else
          (spec_l03List x0).bind fun y3 =>
          (spec_SparseOf y3 x0.1).bind fun y4 =>
          bif y4.2 then
            bif y4.1.2.1 == x0.2.1 then
              bif y4.1.2.2.1 == x0.2.2.1 then
                bif y4.1.2.2.2.1 == x0.2.2.2.1 then
                  (spec_l03Same (y4.1.2.2.2.2.1, y4.1.2.2.2.2.2.1) (x0.2.2.2.2.1, x0.2.2.2.2.2.1)).bind fun y5 =>
                  bif y5 then
                    (spec_l03Same y4.1.2.2.2.2.2.2 x0.2.2.2.2.2.2).bind fun y6 =>
                    some y6
                  else
                    some false
                else
                  some false
              else
                some false
            else
              some false
          else
            some false := by kernel_rfl

noncomputable abbrev spec_SparseList.s : Sg := ⟨[.lend], [.agg [.int .i64, .int .i64, .int .i64, .int .i64, .int .i64, .sl false false 94, .int .i64, .sl false false 94]], ⟨[vo 3], [none]⟩, Try.f8⟩
noncomputable def spec_SparseList.gs (δ : Type) : List (Nat × Callee (GT tab) δ) := [(43, spec_SparseOk.k), (44, spec_l03List.k)]
theorem spec_SparseList.gok (δ : Type) : AllCon Try.prog tab (spec_SparseList.gs δ) := .cons spec_SparseOk.con (.cons spec_l03List.con .nil)
noncomputable def spec_SparseList.c := cx spec_SparseList.s [] [] false (spec_SparseList.gs _)
noncomputable def spec_SparseList (x0 : Int × Int × Int × Int × Int × (List Int) × Int × (List Int)) : Option (List Int) := fnW spec_SparseList.s spec_SparseList.c x0
theorem spec_SparseList.fok : FkS spec_SparseList.s 8 := ⟨Try.func8, by kernel_rfl, by kernel_rfl⟩
noncomputable def spec_SparseList.fn (x : Args tab spec_SparseList.s.ar) : Option (ResT tab spec_SparseList.s.rs) := spec_SparseList x
noncomputable abbrev spec_SparseList.k {δ : Type} : Callee (GT tab) δ := kS spec_SparseList.s spec_SparseList.fn
theorem spec_SparseList.con {δ : Type} : Con Try.prog (KT tab) 8 (spec_SparseList.k (δ := δ)) := con_shape (c := spec_SparseList.c) mixed tysOk (getG_con (spec_SparseList.gok _)) spec_SparseList.fok rfl rfl fun _ => rfl
theorem spec_SparseList.eq (x0 : Int × Int × Int × Int × Int × (List Int) × Int × (List Int)) : spec_SparseList x0 =
    (spec_SparseOk x0).bind fun y1 =>
    bif !y1 then
      some ([] : List Int)
    else
      (spec_l03List x0).bind fun y2 =>
      some y2 := by kernel_rfl

noncomputable abbrev impl_Packed_at.s : Sg := ⟨[.lend, .lend], [.agg [.int .i64, .int .i64, .int .i64, .sl false false 94], vi], ⟨[vi], [none, none]⟩, Try.f113⟩
noncomputable def impl_Packed_at.gs (δ : Type) : List (Nat × Callee (GT tab) δ) := [(108, impl_Bits_at.k)]
theorem impl_Packed_at.gok (δ : Type) : AllCon Try.prog tab (impl_Packed_at.gs δ) := .cons impl_Bits_at.con .nil
noncomputable def impl_Packed_at.c := cx impl_Packed_at.s [] [(3, [1, 2, 5, 6])] false (impl_Packed_at.gs _)
noncomputable def impl_Packed_at (x0 : Int × Int × Int × (List Int)) (x1 : Int) : Option (Int) := fnW impl_Packed_at.s impl_Packed_at.c (x0, x1)
theorem impl_Packed_at.fok : FkS impl_Packed_at.s 113 := ⟨Try.func113, by kernel_rfl, by kernel_rfl⟩
noncomputable def impl_Packed_at.fn (x : Args tab impl_Packed_at.s.ar) : Option (ResT tab impl_Packed_at.s.rs) := impl_Packed_at x.1 x.2
noncomputable abbrev impl_Packed_at.k {δ : Type} : Callee (GT tab) δ := kS impl_Packed_at.s impl_Packed_at.fn
theorem impl_Packed_at.con {δ : Type} : Con Try.prog (KT tab) 113 (impl_Packed_at.k (δ := δ)) := con_shape (c := impl_Packed_at.c) mixed tysOk (getG_con (impl_Packed_at.gok _)) impl_Packed_at.fok rfl rfl fun _ => rfl
noncomputable def impl_Packed_at_l0 (v0 v1 v2 v3 v4 v5 : Int) (v6 : List Int) : Option (Int) := lpW impl_Packed_at.s impl_Packed_at.c 0 (ud 20 [.undef, .int .i64 v0, .ptr 0 0, .undef, .undef, .int .i64 v1, .int .i64 v2]) [.box 34 [.int .i64 v3, .int .i64 v4, .int .i64 v5, .vs false 94 v6]] 1
theorem impl_Packed_at.eq (x0 : Int × Int × Int × (List Int)) (x1 : Int) : impl_Packed_at x0 x1 =
    impl_Packed_at_l0 x1 (0 : Int) (IntKind.i64.wrap (x0.1 - (1 : Int))) x0.1 x0.2.1 x0.2.2.1 x0.2.2.2 := by kernel_rfl
theorem impl_Packed_at_l0.eq (v0 v1 v2 v3 v4 v5 : Int) (v6 : List Int) : impl_Packed_at_l0 v0 v1 v2 v3 v4 v5 v6 =
    bif decide (v2 ≥ (0 : Int)) then
      (impl_Bits_at (v5, v6) (IntKind.i64.wrap ((IntKind.i64.wrap (v0 * v3)) + v2))).bind fun y1 =>
      impl_Packed_at_l0 v0 (IntKind.i64.wrap (((BitVec.ofInt 64 (IntKind.i64.wrap (v1 * 2 ^ 1))) ||| (BitVec.ofInt 64 y1)).toNat : Int)) (IntKind.i64.wrap (v2 - (1 : Int))) v3 v4 v5 v6
    else
      some v1 := (Lw_eq tysOk (getG_con (impl_Packed_at.gok _)) _ _).trans (by kernel_rfl)

noncomputable abbrev impl_PackList.s : Sg := ⟨[.lend], [.agg [.int .i64, .int .i64, .int .i64, .sl false false 94]], ⟨[vo 3], [none]⟩, Try.f90⟩
noncomputable def impl_PackList.gs (δ : Type) : List (Nat × Callee (GT tab) δ) := [(61, impl_PackOk.k), (113, impl_Packed_at.k)]
theorem impl_PackList.gok (δ : Type) : AllCon Try.prog tab (impl_PackList.gs δ) := .cons impl_PackOk.con (.cons impl_Packed_at.con .nil)
noncomputable def impl_PackList.c := cx impl_PackList.s [] [(5, [1, 3, 9, 10])] false (impl_PackList.gs _)
noncomputable def impl_PackList (x0 : Int × Int × Int × (List Int)) : Option (List Int) := fnW impl_PackList.s impl_PackList.c x0
theorem impl_PackList.fok : FkS impl_PackList.s 90 := ⟨Try.func90, by kernel_rfl, by kernel_rfl⟩
noncomputable def impl_PackList.fn (x : Args tab impl_PackList.s.ar) : Option (ResT tab impl_PackList.s.rs) := impl_PackList x
noncomputable abbrev impl_PackList.k {δ : Type} : Callee (GT tab) δ := kS impl_PackList.s impl_PackList.fn
theorem impl_PackList.con {δ : Type} : Con Try.prog (KT tab) 90 (impl_PackList.k (δ := δ)) := con_shape (c := impl_PackList.c) mixed tysOk (getG_con (impl_PackList.gok _)) impl_PackList.fok rfl rfl fun _ => rfl
noncomputable def impl_PackList_l0 (v0 v1 v2 v3 v4 : Int) (v5 v6 : List Int) : Option (List Int) := lpW impl_PackList.s impl_PackList.c 0 (ud 10 [.undef, .ptr 0 0, .undef, .sl 1 0, .undef, .undef, .undef, .undef, .undef, .int .i64 v0, .int .i64 v1]) [.box 34 [.int .i64 v2, .int .i64 v3, .int .i64 v4, .vs false 94 v5], .row 0 true 3 v6] 2
theorem impl_PackList.eq (x0 : Int × Int × Int × (List Int)) : impl_PackList x0 =
    (impl_PackOk x0).bind fun y1 =>
    bif !y1 then
      some ([] : List Int)
    else
      impl_PackList_l0 x0.2.1 (0 : Int) x0.1 x0.2.1 x0.2.2.1 x0.2.2.2 ([] : List Int) := by kernel_rfl
theorem impl_PackList_l0.eq (v0 v1 v2 v3 v4 : Int) (v5 v6 : List Int) : impl_PackList_l0 v0 v1 v2 v3 v4 v5 v6 =
    bif decide (v1 < v0) then
      (impl_Packed_at (v2, v3, v4, v5) v1).bind fun y1 =>
      bif decide ((v6.length + ([y1] : List Int).length) * 8 ≤ 140737488355328) then
        impl_PackList_l0 v0 (IntKind.i64.wrap (v1 + (1 : Int))) v2 v3 v4 v5 (v6 ++ ([y1] : List Int))
      else
        none
    else
      some v6 := (Lw_eq tysOk (getG_con (impl_PackList.gok _)) _ _).trans (by kernel_rfl)

noncomputable abbrev cmp_isNaN_int.s : Sg := ⟨[.lend], [vi], ⟨[vb], [none]⟩, Try.f147⟩
noncomputable def cmp_isNaN_int.gs (δ : Type) : List (Nat × Callee (GT tab) δ) := []
theorem cmp_isNaN_int.gok (δ : Type) : AllCon Try.prog tab (cmp_isNaN_int.gs δ) := .nil
noncomputable def cmp_isNaN_int.c := cx cmp_isNaN_int.s [] [] false (cmp_isNaN_int.gs _)
noncomputable def cmp_isNaN_int (x0 : Int) : Option (Bool) := fnW cmp_isNaN_int.s cmp_isNaN_int.c x0
theorem cmp_isNaN_int.fok : FkS cmp_isNaN_int.s 147 := ⟨Try.func147, by kernel_rfl, by kernel_rfl⟩
noncomputable def cmp_isNaN_int.fn (x : Args tab cmp_isNaN_int.s.ar) : Option (ResT tab cmp_isNaN_int.s.rs) := cmp_isNaN_int x
noncomputable abbrev cmp_isNaN_int.k {δ : Type} : Callee (GT tab) δ := kS cmp_isNaN_int.s cmp_isNaN_int.fn
theorem cmp_isNaN_int.con {δ : Type} : Con Try.prog (KT tab) 147 (cmp_isNaN_int.k (δ := δ)) := con_shape (c := cmp_isNaN_int.c) mixed tysOk (getG_con (cmp_isNaN_int.gok _)) cmp_isNaN_int.fok rfl rfl fun _ => rfl
theorem cmp_isNaN_int.eq (x0 : Int) : cmp_isNaN_int x0 =
    some (x0 != x0) := by kernel_rfl

noncomputable abbrev cmp_Less_int.s : Sg := ⟨[.lend, .lend], [vi, vi], ⟨[vb], [none, none]⟩, Try.f129⟩
noncomputable def cmp_Less_int.gs (δ : Type) : List (Nat × Callee (GT tab) δ) := [(147, cmp_isNaN_int.k)]
theorem cmp_Less_int.gok (δ : Type) : AllCon Try.prog tab (cmp_Less_int.gs δ) := .cons cmp_isNaN_int.con .nil
noncomputable def cmp_Less_int.c := cx cmp_Less_int.s [] [] false (cmp_Less_int.gs _)
noncomputable def cmp_Less_int (x0 x1 : Int) : Option (Bool) := fnW cmp_Less_int.s cmp_Less_int.c (x0, x1)
theorem cmp_Less_int.fok : FkS cmp_Less_int.s 129 := ⟨Try.func129, by kernel_rfl, by kernel_rfl⟩
noncomputable def cmp_Less_int.fn (x : Args tab cmp_Less_int.s.ar) : Option (ResT tab cmp_Less_int.s.rs) := cmp_Less_int x.1 x.2
noncomputable abbrev cmp_Less_int.k {δ : Type} : Callee (GT tab) δ := kS cmp_Less_int.s cmp_Less_int.fn
theorem cmp_Less_int.con {δ : Type} : Con Try.prog (KT tab) 129 (cmp_Less_int.k (δ := δ)) := con_shape (c := cmp_Less_int.c) mixed tysOk (getG_con (cmp_Less_int.gok _)) cmp_Less_int.fok rfl rfl fun _ => rfl
theorem cmp_Less_int.eq (x0 x1 : Int) : cmp_Less_int x0 x1 =
    (cmp_isNaN_int x0).bind fun y1 =>
    bif y1 then
      (cmp_isNaN_int x1).bind fun y2 =>
      bif !y2 then
        some true
      else
        some (decide (x0 < x1))
    else
      some (decide (x0 < x1)) := by kernel_rfl

noncomputable abbrev slices_IsSorted_int_int.s : Sg := ⟨[.lend], [vl 3], ⟨[vb], [none]⟩, Try.f114⟩
noncomputable def slices_IsSorted_int_int.gs (δ : Type) : List (Nat × Callee (GT tab) δ) := [(129, cmp_Less_int.k)]
theorem slices_IsSorted_int_int.gok (δ : Type) : AllCon Try.prog tab (slices_IsSorted_int_int.gs δ) := .cons cmp_Less_int.con .nil
noncomputable def slices_IsSorted_int_int.c := cx slices_IsSorted_int_int.s [] [(2, [0, 3])] false (slices_IsSorted_int_int.gs _)
noncomputable def slices_IsSorted_int_int (x0 : List Int) : Option (Bool) := fnW slices_IsSorted_int_int.s slices_IsSorted_int_int.c x0
theorem slices_IsSorted_int_int.fok : FkS slices_IsSorted_int_int.s 114 := ⟨Try.func114, by kernel_rfl, by kernel_rfl⟩
noncomputable def slices_IsSorted_int_int.fn (x : Args tab slices_IsSorted_int_int.s.ar) : Option (ResT tab slices_IsSorted_int_int.s.rs) := slices_IsSorted_int_int x
noncomputable abbrev slices_IsSorted_int_int.k {δ : Type} : Callee (GT tab) δ := kS slices_IsSorted_int_int.s slices_IsSorted_int_int.fn
theorem slices_IsSorted_int_int.con {δ : Type} : Con Try.prog (KT tab) 114 (slices_IsSorted_int_int.k (δ := δ)) := con_shape (c := slices_IsSorted_int_int.c) mixed tysOk (getG_con (slices_IsSorted_int_int.gok _)) slices_IsSorted_int_int.fok rfl rfl fun _ => rfl
noncomputable def slices_IsSorted_int_int_l0 (v0 : List Int) (v1 : Int) : Option (Bool) := lpW slices_IsSorted_int_int.s slices_IsSorted_int_int.c 0 (ud 17 [.vs false 3 v0, .undef, .undef, .int .i64 v1]) [] 0
theorem slices_IsSorted_int_int.eq (x0 : List Int) : slices_IsSorted_int_int x0 =
    slices_IsSorted_int_int_l0 x0 (IntKind.i64.wrap ((x0.length : Int) - (1 : Int))) := by kernel_rfl
theorem slices_IsSorted_int_int_l0.eq (v0 : List Int) (v1 : Int) : slices_IsSorted_int_int_l0 v0 v1 =
    bif decide (v1 > (0 : Int)) then
      (at? v0 v1).bind fun y1 =>
      (at? v0 (IntKind.i64.wrap (v1 - (1 : Int)))).bind fun y2 =>
      (cmp_Less_int y1 y2).bind fun y3 =>
      bif y3 then
        some false
      else
        slices_IsSorted_int_int_l0 v0 (IntKind.i64.wrap (v1 - (1 : Int)))
    else
      some true := (Lw_eq tysOk (getG_con (slices_IsSorted_int_int.gok _)) _ _).trans (by kernel_rfl)

noncomputable abbrev impl_SparseOf_1.s : Sg := ⟨[.lend, .lend], [vi, .one (.ptr false 0 [.b (.b (.b (.int .i64)))])], ⟨[vb], [none, none]⟩, Try.f116⟩
noncomputable def impl_SparseOf_1.gs (δ : Type) : List (Nat × Callee (GT tab) δ) := [(77, impl_within.k)]
theorem impl_SparseOf_1.gok (δ : Type) : AllCon Try.prog tab (impl_SparseOf_1.gs δ) := .cons impl_within.con .nil
noncomputable def impl_SparseOf_1.c := cx impl_SparseOf_1.s [] [] false (impl_SparseOf_1.gs _)
noncomputable def impl_SparseOf_1 (x0 x1 : Int) : Option (Bool) := fnW impl_SparseOf_1.s impl_SparseOf_1.c (x0, x1)
theorem impl_SparseOf_1.fok : FkS impl_SparseOf_1.s 116 := ⟨Try.func116, by kernel_rfl, by kernel_rfl⟩
noncomputable def impl_SparseOf_1.fn (x : Args tab impl_SparseOf_1.s.ar) : Option (ResT tab impl_SparseOf_1.s.rs) := impl_SparseOf_1 x.1 x.2
noncomputable abbrev impl_SparseOf_1.k {δ : Type} : Callee (GT tab) δ := kS impl_SparseOf_1.s impl_SparseOf_1.fn
theorem impl_SparseOf_1.con {δ : Type} : Con Try.prog (KT tab) 116 (impl_SparseOf_1.k (δ := δ)) := con_shape (c := impl_SparseOf_1.c) mixed tysOk (getG_con (impl_SparseOf_1.gok _)) impl_SparseOf_1.fok rfl rfl fun _ => rfl
theorem impl_SparseOf_1.eq (x0 x1 : Int) : impl_SparseOf_1 x0 x1 =
    (impl_within x0 (0 : Int) (IntKind.i64.wrap (x1 - (1 : Int)))).bind fun y1 =>
    some y1 := by kernel_rfl

noncomputable abbrev impl_areAll_int_1_SparseOf_1.s : Sg := ⟨[.lend, .lend], [vi, .one (.ptr false 0 [.fn 116 [.ptr false 0 [.b (.int .i64)]]])], ⟨[vb], [none, none]⟩, Try.f131⟩
noncomputable def impl_areAll_int_1_SparseOf_1.gs (δ : Type) : List (Nat × Callee (GT tab) δ) := [(116, impl_SparseOf_1.k)]
theorem impl_areAll_int_1_SparseOf_1.gok (δ : Type) : AllCon Try.prog tab (impl_areAll_int_1_SparseOf_1.gs δ) := .cons impl_SparseOf_1.con .nil
noncomputable def impl_areAll_int_1_SparseOf_1.c := cx impl_areAll_int_1_SparseOf_1.s [] [] false (impl_areAll_int_1_SparseOf_1.gs _)
noncomputable def impl_areAll_int_1_SparseOf_1 (x0 x1 : Int) : Option (Bool) := fnW impl_areAll_int_1_SparseOf_1.s impl_areAll_int_1_SparseOf_1.c (x0, x1)
theorem impl_areAll_int_1_SparseOf_1.fok : FkS impl_areAll_int_1_SparseOf_1.s 131 := ⟨Try.func131, by kernel_rfl, by kernel_rfl⟩
noncomputable def impl_areAll_int_1_SparseOf_1.fn (x : Args tab impl_areAll_int_1_SparseOf_1.s.ar) : Option (ResT tab impl_areAll_int_1_SparseOf_1.s.rs) := impl_areAll_int_1_SparseOf_1 x.1 x.2
noncomputable abbrev impl_areAll_int_1_SparseOf_1.k {δ : Type} : Callee (GT tab) δ := kS impl_areAll_int_1_SparseOf_1.s impl_areAll_int_1_SparseOf_1.fn
theorem impl_areAll_int_1_SparseOf_1.con {δ : Type} : Con Try.prog (KT tab) 131 (impl_areAll_int_1_SparseOf_1.k (δ := δ)) := con_shape (c := impl_areAll_int_1_SparseOf_1.c) mixed tysOk (getG_con (impl_areAll_int_1_SparseOf_1.gok _)) impl_areAll_int_1_SparseOf_1.fok rfl rfl fun _ => rfl
theorem impl_areAll_int_1_SparseOf_1.eq (x0 x1 : Int) : impl_areAll_int_1_SparseOf_1 x0 x1 =
    (impl_SparseOf_1 x0 x1).bind fun y1 =>
    some (!y1) := by kernel_rfl

noncomputable abbrev slices_IndexFunc_int_int_areAll_int_1_SparseOf_1.s : Sg := ⟨[.lend, .lend], [vl 3, .one (.fn 131 [.ptr false 0 [.fn 116 [.ptr false 0 [.int .i64]]]])], ⟨[vi], [none, none]⟩, Try.f148⟩
noncomputable def slices_IndexFunc_int_int_areAll_int_1_SparseOf_1.gs (δ : Type) : List (Nat × Callee (GT tab) δ) := [(131, impl_areAll_int_1_SparseOf_1.k)]
theorem slices_IndexFunc_int_int_areAll_int_1_SparseOf_1.gok (δ : Type) : AllCon Try.prog tab (slices_IndexFunc_int_int_areAll_int_1_SparseOf_1.gs δ) := .cons impl_areAll_int_1_SparseOf_1.con .nil
noncomputable def slices_IndexFunc_int_int_areAll_int_1_SparseOf_1.c := cx slices_IndexFunc_int_int_areAll_int_1_SparseOf_1.s [] [(2, [0, 1, 7, 8])] false (slices_IndexFunc_int_int_areAll_int_1_SparseOf_1.gs _)
noncomputable def slices_IndexFunc_int_int_areAll_int_1_SparseOf_1 (x0 : List Int) (x1 : Int) : Option (Int) := fnW slices_IndexFunc_int_int_areAll_int_1_SparseOf_1.s slices_IndexFunc_int_int_areAll_int_1_SparseOf_1.c (x0, x1)
theorem slices_IndexFunc_int_int_areAll_int_1_SparseOf_1.fok : FkS slices_IndexFunc_int_int_areAll_int_1_SparseOf_1.s 148 := ⟨Try.func148, by kernel_rfl, by kernel_rfl⟩
noncomputable def slices_IndexFunc_int_int_areAll_int_1_SparseOf_1.fn (x : Args tab slices_IndexFunc_int_int_areAll_int_1_SparseOf_1.s.ar) : Option (ResT tab slices_IndexFunc_int_int_areAll_int_1_SparseOf_1.s.rs) := slices_IndexFunc_int_int_areAll_int_1_SparseOf_1 x.1 x.2
noncomputable abbrev slices_IndexFunc_int_int_areAll_int_1_SparseOf_1.k {δ : Type} : Callee (GT tab) δ := kS slices_IndexFunc_int_int_areAll_int_1_SparseOf_1.s slices_IndexFunc_int_int_areAll_int_1_SparseOf_1.fn
theorem slices_IndexFunc_int_int_areAll_int_1_SparseOf_1.con {δ : Type} : Con Try.prog (KT tab) 148 (slices_IndexFunc_int_int_areAll_int_1_SparseOf_1.k (δ := δ)) := con_shape (c := slices_IndexFunc_int_int_areAll_int_1_SparseOf_1.c) mixed tysOk (getG_con (slices_IndexFunc_int_int_areAll_int_1_SparseOf_1.gok _)) slices_IndexFunc_int_int_areAll_int_1_SparseOf_1.fok rfl rfl fun _ => rfl
noncomputable def slices_IndexFunc_int_int_areAll_int_1_SparseOf_1_l0 (v0 : List Int) (v1 v2 v3 : Int) : Option (Int) := lpW slices_IndexFunc_int_int_areAll_int_1_SparseOf_1.s slices_IndexFunc_int_int_areAll_int_1_SparseOf_1.c 0 (ud 10 [.vs false 3 v0, .fn 131 [.vp [.fn 116 [.ptr false 0 [.int .i64 v1]]]], .undef, .undef, .undef, .undef, .undef, .int .i64 v2, .int .i64 v3]) [] 0
theorem slices_IndexFunc_int_int_areAll_int_1_SparseOf_1.eq (x0 : List Int) (x1 : Int) : slices_IndexFunc_int_int_areAll_int_1_SparseOf_1 x0 x1 =
    slices_IndexFunc_int_int_areAll_int_1_SparseOf_1_l0 x0 x1 (x0.length : Int) (0 : Int) := by kernel_rfl
theorem slices_IndexFunc_int_int_areAll_int_1_SparseOf_1_l0.eq (v0 : List Int) (v1 v2 v3 : Int) : slices_IndexFunc_int_int_areAll_int_1_SparseOf_1_l0 v0 v1 v2 v3 =
    bif decide (v3 < v2) then
      (at? v0 v3).bind fun y1 =>
      (impl_areAll_int_1_SparseOf_1 y1 v1).bind fun y2 =>
      bif y2 then
        some v3
      else
        slices_IndexFunc_int_int_areAll_int_1_SparseOf_1_l0 v0 v1 v2 (IntKind.i64.wrap (v3 + (1 : Int)))
    else
      some (-1 : Int) := (Lw_eq tysOk (getG_con (slices_IndexFunc_int_int_areAll_int_1_SparseOf_1.gok _)) _ _).trans (by kernel_rfl)

noncomputable abbrev slices_ContainsFunc_int_int_areAll_int_1_SparseOf_1.s : Sg := ⟨[.lend, .lend], [vl 3, .one (.fn 131 [.ptr false 126 [.fn 116 [.ptr false 0 [.int .i64]]]])], ⟨[vb], [none, none]⟩, Try.f130⟩
noncomputable def slices_ContainsFunc_int_int_areAll_int_1_SparseOf_1.gs (δ : Type) : List (Nat × Callee (GT tab) δ) := [(148, slices_IndexFunc_int_int_areAll_int_1_SparseOf_1.k)]
theorem slices_ContainsFunc_int_int_areAll_int_1_SparseOf_1.gok (δ : Type) : AllCon Try.prog tab (slices_ContainsFunc_int_int_areAll_int_1_SparseOf_1.gs δ) := .cons slices_IndexFunc_int_int_areAll_int_1_SparseOf_1.con .nil
noncomputable def slices_ContainsFunc_int_int_areAll_int_1_SparseOf_1.c := cx slices_ContainsFunc_int_int_areAll_int_1_SparseOf_1.s [] [] false (slices_ContainsFunc_int_int_areAll_int_1_SparseOf_1.gs _)
noncomputable def slices_ContainsFunc_int_int_areAll_int_1_SparseOf_1 (x0 : List Int) (x1 : Int) : Option (Bool) := fnW slices_ContainsFunc_int_int_areAll_int_1_SparseOf_1.s slices_ContainsFunc_int_int_areAll_int_1_SparseOf_1.c (x0, x1)
theorem slices_ContainsFunc_int_int_areAll_int_1_SparseOf_1.fok : FkS slices_ContainsFunc_int_int_areAll_int_1_SparseOf_1.s 130 := ⟨Try.func130, by kernel_rfl, by kernel_rfl⟩
noncomputable def slices_ContainsFunc_int_int_areAll_int_1_SparseOf_1.fn (x : Args tab slices_ContainsFunc_int_int_areAll_int_1_SparseOf_1.s.ar) : Option (ResT tab slices_ContainsFunc_int_int_areAll_int_1_SparseOf_1.s.rs) := slices_ContainsFunc_int_int_areAll_int_1_SparseOf_1 x.1 x.2
noncomputable abbrev slices_ContainsFunc_int_int_areAll_int_1_SparseOf_1.k {δ : Type} : Callee (GT tab) δ := kS slices_ContainsFunc_int_int_areAll_int_1_SparseOf_1.s slices_ContainsFunc_int_int_areAll_int_1_SparseOf_1.fn
theorem slices_ContainsFunc_int_int_areAll_int_1_SparseOf_1.con {δ : Type} : Con Try.prog (KT tab) 130 (slices_ContainsFunc_int_int_areAll_int_1_SparseOf_1.k (δ := δ)) := con_shape (c := slices_ContainsFunc_int_int_areAll_int_1_SparseOf_1.c) mixed tysOk (getG_con (slices_ContainsFunc_int_int_areAll_int_1_SparseOf_1.gok _)) slices_ContainsFunc_int_int_areAll_int_1_SparseOf_1.fok rfl rfl fun _ => rfl
theorem slices_ContainsFunc_int_int_areAll_int_1_SparseOf_1.eq (x0 : List Int) (x1 : Int) : slices_ContainsFunc_int_int_areAll_int_1_SparseOf_1 x0 x1 =
    (slices_IndexFunc_int_int_areAll_int_1_SparseOf_1 x0 x1).bind fun y1 =>
    some (decide (y1 ≥ (0 : Int))) := by kernel_rfl

noncomputable abbrev impl_areAll_int_SparseOf_1.s : Sg := ⟨[.lend, .lend], [vl 3, .one (.fn 116 [.ptr false 3 [.b (.b (.int .i64))]])], ⟨[vb], [none, none]⟩, Try.f115⟩
noncomputable def impl_areAll_int_SparseOf_1.gs (δ : Type) : List (Nat × Callee (GT tab) δ) := [(130, slices_ContainsFunc_int_int_areAll_int_1_SparseOf_1.k)]
theorem impl_areAll_int_SparseOf_1.gok (δ : Type) : AllCon Try.prog tab (impl_areAll_int_SparseOf_1.gs δ) := .cons slices_ContainsFunc_int_int_areAll_int_1_SparseOf_1.con .nil
noncomputable def impl_areAll_int_SparseOf_1.c := cx impl_areAll_int_SparseOf_1.s [] [] false (impl_areAll_int_SparseOf_1.gs _)
noncomputable def impl_areAll_int_SparseOf_1 (x0 : List Int) (x1 : Int) : Option (Bool) := fnW impl_areAll_int_SparseOf_1.s impl_areAll_int_SparseOf_1.c (x0, x1)
theorem impl_areAll_int_SparseOf_1.fok : FkS impl_areAll_int_SparseOf_1.s 115 := ⟨Try.func115, by kernel_rfl, by kernel_rfl⟩
noncomputable def impl_areAll_int_SparseOf_1.fn (x : Args tab impl_areAll_int_SparseOf_1.s.ar) : Option (ResT tab impl_areAll_int_SparseOf_1.s.rs) := impl_areAll_int_SparseOf_1 x.1 x.2
noncomputable abbrev impl_areAll_int_SparseOf_1.k {δ : Type} : Callee (GT tab) δ := kS impl_areAll_int_SparseOf_1.s impl_areAll_int_SparseOf_1.fn
theorem impl_areAll_int_SparseOf_1.con {δ : Type} : Con Try.prog (KT tab) 115 (impl_areAll_int_SparseOf_1.k (δ := δ)) := con_shape (c := impl_areAll_int_SparseOf_1.c) mixed tysOk (getG_con (impl_areAll_int_SparseOf_1.gok _)) impl_areAll_int_SparseOf_1.fok rfl rfl fun _ => rfl
theorem impl_areAll_int_SparseOf_1.eq (x0 : List Int) (x1 : Int) : impl_areAll_int_SparseOf_1 x0 x1 =
    (slices_ContainsFunc_int_int_areAll_int_1_SparseOf_1 x0 x1).bind fun y1 =>
    some (!y1) := by kernel_rfl

noncomputable abbrev bits_Len64.s : Sg := ⟨[.lend], [.one (.b (.b (.b (.b (.int .u64)))))], ⟨[vi], [none]⟩, Try.f146⟩
noncomputable def bits_Len64.gs (δ : Type) : List (Nat × Callee (GT tab) δ) := []
theorem bits_Len64.gok (δ : Type) : AllCon Try.prog tab (bits_Len64.gs δ) := .nil
noncomputable def bits_Len64.c := cx bits_Len64.s [4, 7] [(4, [0, 2]), (7, [0, 2])] false (bits_Len64.gs _)
noncomputable def bits_Len64 (x0 : Int) : Option (Int) := fnW bits_Len64.s bits_Len64.c x0
theorem bits_Len64.fok : FkS bits_Len64.s 146 := ⟨Try.func146, by kernel_rfl, by kernel_rfl⟩
noncomputable def bits_Len64.fn (x : Args tab bits_Len64.s.ar) : Option (ResT tab bits_Len64.s.rs) := bits_Len64 x
noncomputable abbrev bits_Len64.k {δ : Type} : Callee (GT tab) δ := kS bits_Len64.s bits_Len64.fn
theorem bits_Len64.con {δ : Type} : Con Try.prog (KT tab) 146 (bits_Len64.k (δ := δ)) := con_shape (c := bits_Len64.c) mixed tysOk (getG_con (bits_Len64.gok _)) bits_Len64.fok rfl rfl fun _ => rfl
noncomputable def bits_Len64_l0 (v0 v1 : Int) : Option (Int) := lpW bits_Len64.s bits_Len64.c 0 (ud 22 [.int .u64 v0, .undef, .int .i64 v1]) [] 0
noncomputable def bits_Len64_l1 (v0 v1 : Int) : Option (Int) := lpW bits_Len64.s bits_Len64.c 1 (ud 22 [.int .u64 v0, .undef, .int .i64 v1]) [] 0
theorem bits_Len64.eq (x0 : Int) : bits_Len64 x0 =
    bif decide (x0 ≥ (4294967296 : Int)) then
      bits_Len64_l0 (x0.fdiv (2 ^ 32)) (32 : Int)
    else
      bits_Len64_l0 x0 (0 : Int) := by kernel_rfl
theorem bits_Len64_l0.eq (v0 v1 : Int) : bits_Len64_l0 v0 v1 =
    bif decide (v0 ≥ (65536 : Int)) then
      bits_Len64_l1 (v0.fdiv (2 ^ 16)) (IntKind.i64.wrap (v1 + (16 : Int)))
    else
      bits_Len64_l1 v0 v1 := (Lw_eq tysOk (getG_con (bits_Len64.gok _)) _ _).trans (by kernel_rfl)
theorem bits_Len64_l1.eq (v0 v1 : Int) : bits_Len64_l1 v0 v1 =
    bif decide (v0 ≥ (256 : Int)) then
      (at? ((⟨(List.toArray ([0, 1, 2, 2, 3, 3, 3, 3, 4, 4, 4, 4, 4, 4, 4, 4, 5, 5, 5, 5, 5, 5, 5, 5, 5, 5, 5, 5, 5, 5, 5, 5, 6, 6, 6, 6, 6, 6, 6, 6, 6, 6, 6, 6, 6, 6, 6, 6, 6, 6, 6, 6, 6, 6, 6, 6, 6, 6, 6, 6, 6, 6, 6, 6, 7, 7, 7, 7, 7, 7, 7, 7, 7, 7, 7, 7, 7, 7, 7, 7, 7, 7, 7, 7, 7, 7, 7, 7, 7, 7, 7, 7, 7, 7, 7, 7, 7, 7, 7, 7, 7, 7, 7, 7, 7, 7, 7, 7, 7, 7, 7, 7, 7, 7, 7, 7, 7, 7, 7, 7, 7, 7, 7, 7, 7, 7, 7, 7] ++ [8, 8, 8, 8, 8, 8, 8, 8, 8, 8, 8, 8, 8, 8, 8, 8, 8, 8, 8, 8, 8, 8, 8, 8, 8, 8, 8, 8, 8, 8, 8, 8, 8, 8, 8, 8, 8, 8, 8, 8, 8, 8, 8, 8, 8, 8, 8, 8, 8, 8, 8, 8, 8, 8, 8, 8, 8, 8, 8, 8, 8, 8, 8, 8, 8, 8, 8, 8, 8, 8, 8, 8, 8, 8, 8, 8, 8, 8, 8, 8, 8, 8, 8, 8, 8, 8, 8, 8, 8, 8, 8, 8, 8, 8, 8, 8, 8, 8, 8, 8, 8, 8, 8, 8, 8, 8, 8, 8, 8, 8, 8, 8, 8, 8, 8, 8, 8, 8, 8, 8, 8, 8, 8, 8, 8, 8, 8, 8]))⟩ : ByteArray).data.toList) (IntKind.u8.wrap (v0.fdiv (2 ^ 8)))).bind fun y1 =>
      some (IntKind.i64.wrap ((IntKind.i64.wrap (v1 + (8 : Int))) + (IntKind.i64.wrap (y1.toNat : Int))))
    else
      (at? ((⟨(List.toArray ([0, 1, 2, 2, 3, 3, 3, 3, 4, 4, 4, 4, 4, 4, 4, 4, 5, 5, 5, 5, 5, 5, 5, 5, 5, 5, 5, 5, 5, 5, 5, 5, 6, 6, 6, 6, 6, 6, 6, 6, 6, 6, 6, 6, 6, 6, 6, 6, 6, 6, 6, 6, 6, 6, 6, 6, 6, 6, 6, 6, 6, 6, 6, 6, 7, 7, 7, 7, 7, 7, 7, 7, 7, 7, 7, 7, 7, 7, 7, 7, 7, 7, 7, 7, 7, 7, 7, 7, 7, 7, 7, 7, 7, 7, 7, 7, 7, 7, 7, 7, 7, 7, 7, 7, 7, 7, 7, 7, 7, 7, 7, 7, 7, 7, 7, 7, 7, 7, 7, 7, 7, 7, 7, 7, 7, 7, 7, 7] ++ [8, 8, 8, 8, 8, 8, 8, 8, 8, 8, 8, 8, 8, 8, 8, 8, 8, 8, 8, 8, 8, 8, 8, 8, 8, 8, 8, 8, 8, 8, 8, 8, 8, 8, 8, 8, 8, 8, 8, 8, 8, 8, 8, 8, 8, 8, 8, 8, 8, 8, 8, 8, 8, 8, 8, 8, 8, 8, 8, 8, 8, 8, 8, 8, 8, 8, 8, 8, 8, 8, 8, 8, 8, 8, 8, 8, 8, 8, 8, 8, 8, 8, 8, 8, 8, 8, 8, 8, 8, 8, 8, 8, 8, 8, 8, 8, 8, 8, 8, 8, 8, 8, 8, 8, 8, 8, 8, 8, 8, 8, 8, 8, 8, 8, 8, 8, 8, 8, 8, 8, 8, 8, 8, 8, 8, 8, 8, 8]))⟩ : ByteArray).data.toList) (IntKind.u8.wrap v0)).bind fun y2 =>
      some (IntKind.i64.wrap (v1 + (IntKind.i64.wrap (y2.toNat : Int)))) := (Lw_eq tysOk (getG_con (bits_Len64.gok _)) _ _).trans (by kernel_rfl)

noncomputable abbrev bits_Len.s : Sg := ⟨[.lend], [.one (.b (.b (.b (.b (.int .u64)))))], ⟨[vi], [none]⟩, Try.f127⟩
noncomputable def bits_Len.gs (δ : Type) : List (Nat × Callee (GT tab) δ) := [(146, bits_Len64.k)]
theorem bits_Len.gok (δ : Type) : AllCon Try.prog tab (bits_Len.gs δ) := .cons bits_Len64.con .nil
noncomputable def bits_Len.c := cx bits_Len.s [] [] false (bits_Len.gs _)
noncomputable def bits_Len (x0 : Int) : Option (Int) := fnW bits_Len.s bits_Len.c x0
theorem bits_Len.fok : FkS bits_Len.s 127 := ⟨Try.func127, by kernel_rfl, by kernel_rfl⟩
noncomputable def bits_Len.fn (x : Args tab bits_Len.s.ar) : Option (ResT tab bits_Len.s.rs) := bits_Len x
noncomputable abbrev bits_Len.k {δ : Type} : Callee (GT tab) δ := kS bits_Len.s bits_Len.fn
theorem bits_Len.con {δ : Type} : Con Try.prog (KT tab) 127 (bits_Len.k (δ := δ)) := con_shape (c := bits_Len.c) mixed tysOk (getG_con (bits_Len.gok _)) bits_Len.fok rfl rfl fun _ => rfl
theorem bits_Len.eq (x0 : Int) : bits_Len x0 =
    (bits_Len64 x0).bind fun y1 =>
    some y1 := by kernel_rfl

noncomputable abbrev impl_WidthOf.s : Sg := ⟨[.lend], [vi], ⟨[vi], [none]⟩, Try.f132⟩
noncomputable def impl_WidthOf.gs (δ : Type) : List (Nat × Callee (GT tab) δ) := [(127, bits_Len.k)]
theorem impl_WidthOf.gok (δ : Type) : AllCon Try.prog tab (impl_WidthOf.gs δ) := .cons bits_Len.con .nil
noncomputable def impl_WidthOf.c := cx impl_WidthOf.s [] [] false (impl_WidthOf.gs _)
noncomputable def impl_WidthOf (x0 : Int) : Option (Int) := fnW impl_WidthOf.s impl_WidthOf.c x0
theorem impl_WidthOf.fok : FkS impl_WidthOf.s 132 := ⟨Try.func132, by kernel_rfl, by kernel_rfl⟩
noncomputable def impl_WidthOf.fn (x : Args tab impl_WidthOf.s.ar) : Option (ResT tab impl_WidthOf.s.rs) := impl_WidthOf x
noncomputable abbrev impl_WidthOf.k {δ : Type} : Callee (GT tab) δ := kS impl_WidthOf.s impl_WidthOf.fn
theorem impl_WidthOf.con {δ : Type} : Con Try.prog (KT tab) 132 (impl_WidthOf.k (δ := δ)) := con_shape (c := impl_WidthOf.c) mixed tysOk (getG_con (impl_WidthOf.gok _)) impl_WidthOf.fok rfl rfl fun _ => rfl
theorem impl_WidthOf.eq (x0 : Int) : impl_WidthOf x0 =
    bif decide (x0 < (0 : Int)) then
      some (-1 : Int)
    else
      (bits_Len (IntKind.u64.wrap x0)).bind fun y1 =>
      some y1 := by kernel_rfl

noncomputable abbrev impl_lowWidth.s : Sg := ⟨[.lend, .lend], [vi, vi], ⟨[vi], [none, none]⟩, Try.f117⟩
noncomputable def impl_lowWidth.gs (δ : Type) : List (Nat × Callee (GT tab) δ) := [(132, impl_WidthOf.k)]
theorem impl_lowWidth.gok (δ : Type) : AllCon Try.prog tab (impl_lowWidth.gs δ) := .cons impl_WidthOf.con .nil
noncomputable def impl_lowWidth.c := cx impl_lowWidth.s [] [] false (impl_lowWidth.gs _)
noncomputable def impl_lowWidth (x0 x1 : Int) : Option (Int) := fnW impl_lowWidth.s impl_lowWidth.c (x0, x1)
theorem impl_lowWidth.fok : FkS impl_lowWidth.s 117 := ⟨Try.func117, by kernel_rfl, by kernel_rfl⟩
noncomputable def impl_lowWidth.fn (x : Args tab impl_lowWidth.s.ar) : Option (ResT tab impl_lowWidth.s.rs) := impl_lowWidth x.1 x.2
noncomputable abbrev impl_lowWidth.k {δ : Type} : Callee (GT tab) δ := kS impl_lowWidth.s impl_lowWidth.fn
theorem impl_lowWidth.con {δ : Type} : Con Try.prog (KT tab) 117 (impl_lowWidth.k (δ := δ)) := con_shape (c := impl_lowWidth.c) mixed tysOk (getG_con (impl_lowWidth.gok _)) impl_lowWidth.fok rfl rfl fun _ => rfl
theorem impl_lowWidth.eq (x0 x1 : Int) : impl_lowWidth x0 x1 =
    bif x1 == (0 : Int) then
      some (0 : Int)
    else
      bif decide (x1 = (0 : Int)) then
        none
      else
        (impl_WidthOf (IntKind.i64.wrap (x0.tdiv x1))).bind fun y1 =>
        some (if (0 : Int) > IntKind.i64.wrap (y1 - (1 : Int)) then (0 : Int) else IntKind.i64.wrap (y1 - (1 : Int))) := by kernel_rfl

noncomputable abbrev impl_PackOf_1.s : Sg := ⟨[.lend, .lend], [vi, .one (.ptr false 0 [.b (.b (.b (.int .i64)))])], ⟨[vb], [none, none]⟩, Try.f133⟩
noncomputable def impl_PackOf_1.gs (δ : Type) : List (Nat × Callee (GT tab) δ) := [(77, impl_within.k)]
theorem impl_PackOf_1.gok (δ : Type) : AllCon Try.prog tab (impl_PackOf_1.gs δ) := .cons impl_within.con .nil
noncomputable def impl_PackOf_1.c := cx impl_PackOf_1.s [] [] false (impl_PackOf_1.gs _)
noncomputable def impl_PackOf_1 (x0 x1 : Int) : Option (Bool) := fnW impl_PackOf_1.s impl_PackOf_1.c (x0, x1)
theorem impl_PackOf_1.fok : FkS impl_PackOf_1.s 133 := ⟨Try.func133, by kernel_rfl, by kernel_rfl⟩
noncomputable def impl_PackOf_1.fn (x : Args tab impl_PackOf_1.s.ar) : Option (ResT tab impl_PackOf_1.s.rs) := impl_PackOf_1 x.1 x.2
noncomputable abbrev impl_PackOf_1.k {δ : Type} : Callee (GT tab) δ := kS impl_PackOf_1.s impl_PackOf_1.fn
theorem impl_PackOf_1.con {δ : Type} : Con Try.prog (KT tab) 133 (impl_PackOf_1.k (δ := δ)) := con_shape (c := impl_PackOf_1.c) mixed tysOk (getG_con (impl_PackOf_1.gok _)) impl_PackOf_1.fok rfl rfl fun _ => rfl
theorem impl_PackOf_1.eq (x0 x1 : Int) : impl_PackOf_1 x0 x1 =
    bif decide (x1 < (0 : Int)) then
      none
    else
      (impl_within x0 (0 : Int) (IntKind.i64.wrap ((IntKind.i64.wrap ((1 : Int) * 2 ^ (min x1.toNat 64))) - (1 : Int)))).bind fun y1 =>
      some y1 := by kernel_rfl

noncomputable abbrev impl_areAll_int_1_PackOf_1.s : Sg := ⟨[.lend, .lend], [vi, .one (.ptr false 0 [.fn 133 [.ptr false 0 [.b (.int .i64)]]])], ⟨[vb], [none, none]⟩, Try.f131⟩
noncomputable def impl_areAll_int_1_PackOf_1.gs (δ : Type) : List (Nat × Callee (GT tab) δ) := [(133, impl_PackOf_1.k)]
theorem impl_areAll_int_1_PackOf_1.gok (δ : Type) : AllCon Try.prog tab (impl_areAll_int_1_PackOf_1.gs δ) := .cons impl_PackOf_1.con .nil
noncomputable def impl_areAll_int_1_PackOf_1.c := cx impl_areAll_int_1_PackOf_1.s [] [] false (impl_areAll_int_1_PackOf_1.gs _)
noncomputable def impl_areAll_int_1_PackOf_1 (x0 x1 : Int) : Option (Bool) := fnW impl_areAll_int_1_PackOf_1.s impl_areAll_int_1_PackOf_1.c (x0, x1)
theorem impl_areAll_int_1_PackOf_1.fok : FkS impl_areAll_int_1_PackOf_1.s 131 := ⟨Try.func131, by kernel_rfl, by kernel_rfl⟩
noncomputable def impl_areAll_int_1_PackOf_1.fn (x : Args tab impl_areAll_int_1_PackOf_1.s.ar) : Option (ResT tab impl_areAll_int_1_PackOf_1.s.rs) := impl_areAll_int_1_PackOf_1 x.1 x.2
noncomputable abbrev impl_areAll_int_1_PackOf_1.k {δ : Type} : Callee (GT tab) δ := kS impl_areAll_int_1_PackOf_1.s impl_areAll_int_1_PackOf_1.fn
theorem impl_areAll_int_1_PackOf_1.con {δ : Type} : Con Try.prog (KT tab) 131 (impl_areAll_int_1_PackOf_1.k (δ := δ)) := con_shape (c := impl_areAll_int_1_PackOf_1.c) mixed tysOk (getG_con (impl_areAll_int_1_PackOf_1.gok _)) impl_areAll_int_1_PackOf_1.fok rfl rfl fun _ => rfl
theorem impl_areAll_int_1_PackOf_1.eq (x0 x1 : Int) : impl_areAll_int_1_PackOf_1 x0 x1 =
    (impl_PackOf_1 x0 x1).bind fun y1 =>
    some (!y1) := by kernel_rfl

noncomputable abbrev slices_IndexFunc_int_int_areAll_int_1_PackOf_1.s : Sg := ⟨[.lend, .lend], [vl 3, .one (.fn 131 [.ptr false 0 [.fn 133 [.ptr false 0 [.int .i64]]]])], ⟨[vi], [none, none]⟩, Try.f148⟩
noncomputable def slices_IndexFunc_int_int_areAll_int_1_PackOf_1.gs (δ : Type) : List (Nat × Callee (GT tab) δ) := [(131, impl_areAll_int_1_PackOf_1.k)]
theorem slices_IndexFunc_int_int_areAll_int_1_PackOf_1.gok (δ : Type) : AllCon Try.prog tab (slices_IndexFunc_int_int_areAll_int_1_PackOf_1.gs δ) := .cons impl_areAll_int_1_PackOf_1.con .nil
noncomputable def slices_IndexFunc_int_int_areAll_int_1_PackOf_1.c := cx slices_IndexFunc_int_int_areAll_int_1_PackOf_1.s [] [(2, [0, 1, 7, 8])] false (slices_IndexFunc_int_int_areAll_int_1_PackOf_1.gs _)
noncomputable def slices_IndexFunc_int_int_areAll_int_1_PackOf_1 (x0 : List Int) (x1 : Int) : Option (Int) := fnW slices_IndexFunc_int_int_areAll_int_1_PackOf_1.s slices_IndexFunc_int_int_areAll_int_1_PackOf_1.c (x0, x1)
theorem slices_IndexFunc_int_int_areAll_int_1_PackOf_1.fok : FkS slices_IndexFunc_int_int_areAll_int_1_PackOf_1.s 148 := ⟨Try.func148, by kernel_rfl, by kernel_rfl⟩
noncomputable def slices_IndexFunc_int_int_areAll_int_1_PackOf_1.fn (x : Args tab slices_IndexFunc_int_int_areAll_int_1_PackOf_1.s.ar) : Option (ResT tab slices_IndexFunc_int_int_areAll_int_1_PackOf_1.s.rs) := slices_IndexFunc_int_int_areAll_int_1_PackOf_1 x.1 x.2
noncomputable abbrev slices_IndexFunc_int_int_areAll_int_1_PackOf_1.k {δ : Type} : Callee (GT tab) δ := kS slices_IndexFunc_int_int_areAll_int_1_PackOf_1.s slices_IndexFunc_int_int_areAll_int_1_PackOf_1.fn
theorem slices_IndexFunc_int_int_areAll_int_1_PackOf_1.con {δ : Type} : Con Try.prog (KT tab) 148 (slices_IndexFunc_int_int_areAll_int_1_PackOf_1.k (δ := δ)) := con_shape (c := slices_IndexFunc_int_int_areAll_int_1_PackOf_1.c) mixed tysOk (getG_con (slices_IndexFunc_int_int_areAll_int_1_PackOf_1.gok _)) slices_IndexFunc_int_int_areAll_int_1_PackOf_1.fok rfl rfl fun _ => rfl
noncomputable def slices_IndexFunc_int_int_areAll_int_1_PackOf_1_l0 (v0 : List Int) (v1 v2 v3 : Int) : Option (Int) := lpW slices_IndexFunc_int_int_areAll_int_1_PackOf_1.s slices_IndexFunc_int_int_areAll_int_1_PackOf_1.c 0 (ud 10 [.vs false 3 v0, .fn 131 [.vp [.fn 133 [.ptr false 0 [.int .i64 v1]]]], .undef, .undef, .undef, .undef, .undef, .int .i64 v2, .int .i64 v3]) [] 0
theorem slices_IndexFunc_int_int_areAll_int_1_PackOf_1.eq (x0 : List Int) (x1 : Int) : slices_IndexFunc_int_int_areAll_int_1_PackOf_1 x0 x1 =
    slices_IndexFunc_int_int_areAll_int_1_PackOf_1_l0 x0 x1 (x0.length : Int) (0 : Int) := by kernel_rfl
theorem slices_IndexFunc_int_int_areAll_int_1_PackOf_1_l0.eq (v0 : List Int) (v1 v2 v3 : Int) : slices_IndexFunc_int_int_areAll_int_1_PackOf_1_l0 v0 v1 v2 v3 =
    bif decide (v3 < v2) then
      (at? v0 v3).bind fun y1 =>
      (impl_areAll_int_1_PackOf_1 y1 v1).bind fun y2 =>
      bif y2 then
        some v3
      else
        slices_IndexFunc_int_int_areAll_int_1_PackOf_1_l0 v0 v1 v2 (IntKind.i64.wrap (v3 + (1 : Int)))
    else
      some (-1 : Int) := (Lw_eq tysOk (getG_con (slices_IndexFunc_int_int_areAll_int_1_PackOf_1.gok _)) _ _).trans (by kernel_rfl)

noncomputable abbrev slices_ContainsFunc_int_int_areAll_int_1_PackOf_1.s : Sg := ⟨[.lend, .lend], [vl 3, .one (.fn 131 [.ptr false 126 [.fn 133 [.ptr false 0 [.int .i64]]]])], ⟨[vb], [none, none]⟩, Try.f130⟩
noncomputable def slices_ContainsFunc_int_int_areAll_int_1_PackOf_1.gs (δ : Type) : List (Nat × Callee (GT tab) δ) := [(148, slices_IndexFunc_int_int_areAll_int_1_PackOf_1.k)]
theorem slices_ContainsFunc_int_int_areAll_int_1_PackOf_1.gok (δ : Type) : AllCon Try.prog tab (slices_ContainsFunc_int_int_areAll_int_1_PackOf_1.gs δ) := .cons slices_IndexFunc_int_int_areAll_int_1_PackOf_1.con .nil
noncomputable def slices_ContainsFunc_int_int_areAll_int_1_PackOf_1.c := cx slices_ContainsFunc_int_int_areAll_int_1_PackOf_1.s [] [] false (slices_ContainsFunc_int_int_areAll_int_1_PackOf_1.gs _)
noncomputable def slices_ContainsFunc_int_int_areAll_int_1_PackOf_1 (x0 : List Int) (x1 : Int) : Option (Bool) := fnW slices_ContainsFunc_int_int_areAll_int_1_PackOf_1.s slices_ContainsFunc_int_int_areAll_int_1_PackOf_1.c (x0, x1)
theorem slices_ContainsFunc_int_int_areAll_int_1_PackOf_1.fok : FkS slices_ContainsFunc_int_int_areAll_int_1_PackOf_1.s 130 := ⟨Try.func130, by kernel_rfl, by kernel_rfl⟩
noncomputable def slices_ContainsFunc_int_int_areAll_int_1_PackOf_1.fn (x : Args tab slices_ContainsFunc_int_int_areAll_int_1_PackOf_1.s.ar) : Option (ResT tab slices_ContainsFunc_int_int_areAll_int_1_PackOf_1.s.rs) := slices_ContainsFunc_int_int_areAll_int_1_PackOf_1 x.1 x.2
noncomputable abbrev slices_ContainsFunc_int_int_areAll_int_1_PackOf_1.k {δ : Type} : Callee (GT tab) δ := kS slices_ContainsFunc_int_int_areAll_int_1_PackOf_1.s slices_ContainsFunc_int_int_areAll_int_1_PackOf_1.fn
theorem slices_ContainsFunc_int_int_areAll_int_1_PackOf_1.con {δ : Type} : Con Try.prog (KT tab) 130 (slices_ContainsFunc_int_int_areAll_int_1_PackOf_1.k (δ := δ)) := con_shape (c := slices_ContainsFunc_int_int_areAll_int_1_PackOf_1.c) mixed tysOk (getG_con (slices_ContainsFunc_int_int_areAll_int_1_PackOf_1.gok _)) slices_ContainsFunc_int_int_areAll_int_1_PackOf_1.fok rfl rfl fun _ => rfl
theorem slices_ContainsFunc_int_int_areAll_int_1_PackOf_1.eq (x0 : List Int) (x1 : Int) : slices_ContainsFunc_int_int_areAll_int_1_PackOf_1 x0 x1 =
    (slices_IndexFunc_int_int_areAll_int_1_PackOf_1 x0 x1).bind fun y1 =>
    some (decide (y1 ≥ (0 : Int))) := by kernel_rfl

noncomputable abbrev impl_areAll_int_PackOf_1.s : Sg := ⟨[.lend, .lend], [vl 3, .one (.fn 133 [.ptr false 3 [.b (.b (.int .i64))]])], ⟨[vb], [none, none]⟩, Try.f115⟩
noncomputable def impl_areAll_int_PackOf_1.gs (δ : Type) : List (Nat × Callee (GT tab) δ) := [(130, slices_ContainsFunc_int_int_areAll_int_1_PackOf_1.k)]
theorem impl_areAll_int_PackOf_1.gok (δ : Type) : AllCon Try.prog tab (impl_areAll_int_PackOf_1.gs δ) := .cons slices_ContainsFunc_int_int_areAll_int_1_PackOf_1.con .nil
noncomputable def impl_areAll_int_PackOf_1.c := cx impl_areAll_int_PackOf_1.s [] [] false (impl_areAll_int_PackOf_1.gs _)
noncomputable def impl_areAll_int_PackOf_1 (x0 : List Int) (x1 : Int) : Option (Bool) := fnW impl_areAll_int_PackOf_1.s impl_areAll_int_PackOf_1.c (x0, x1)
theorem impl_areAll_int_PackOf_1.fok : FkS impl_areAll_int_PackOf_1.s 115 := ⟨Try.func115, by kernel_rfl, by kernel_rfl⟩
noncomputable def impl_areAll_int_PackOf_1.fn (x : Args tab impl_areAll_int_PackOf_1.s.ar) : Option (ResT tab impl_areAll_int_PackOf_1.s.rs) := impl_areAll_int_PackOf_1 x.1 x.2
noncomputable abbrev impl_areAll_int_PackOf_1.k {δ : Type} : Callee (GT tab) δ := kS impl_areAll_int_PackOf_1.s impl_areAll_int_PackOf_1.fn
theorem impl_areAll_int_PackOf_1.con {δ : Type} : Con Try.prog (KT tab) 115 (impl_areAll_int_PackOf_1.k (δ := δ)) := con_shape (c := impl_areAll_int_PackOf_1.c) mixed tysOk (getG_con (impl_areAll_int_PackOf_1.gok _)) impl_areAll_int_PackOf_1.fok rfl rfl fun _ => rfl
theorem impl_areAll_int_PackOf_1.eq (x0 : List Int) (x1 : Int) : impl_areAll_int_PackOf_1 x0 x1 =
    (slices_ContainsFunc_int_int_areAll_int_1_PackOf_1 x0 x1).bind fun y1 =>
    some (!y1) := by kernel_rfl

noncomputable abbrev impl_digits.s : Sg := ⟨[.lend, .lend], [vi, vi], ⟨[vo 3], [none, none]⟩, Try.f134⟩
noncomputable def impl_digits.gs (δ : Type) : List (Nat × Callee (GT tab) δ) := []
theorem impl_digits.gok (δ : Type) : AllCon Try.prog tab (impl_digits.gs δ) := .nil
noncomputable def impl_digits.c := cx impl_digits.s [] [(3, [0, 5, 6, 7])] false (impl_digits.gs _)
noncomputable def impl_digits (x0 x1 : Int) : Option (List Int) := fnW impl_digits.s impl_digits.c (x0, x1)
theorem impl_digits.fok : FkS impl_digits.s 134 := ⟨Try.func134, by kernel_rfl, by kernel_rfl⟩
noncomputable def impl_digits.fn (x : Args tab impl_digits.s.ar) : Option (ResT tab impl_digits.s.rs) := impl_digits x.1 x.2
noncomputable abbrev impl_digits.k {δ : Type} : Callee (GT tab) δ := kS impl_digits.s impl_digits.fn
theorem impl_digits.con {δ : Type} : Con Try.prog (KT tab) 134 (impl_digits.k (δ := δ)) := con_shape (c := impl_digits.c) mixed tysOk (getG_con (impl_digits.gok _)) impl_digits.fok rfl rfl fun _ => rfl
noncomputable def impl_digits_l0 (v0 v1 v2 : Int) (v3 : List Int) : Option (List Int) := lpW impl_digits.s impl_digits.c 0 (ud 10 [.int .i64 v0, .undef, .undef, .undef, .undef, .sl 0 0, .int .i64 v1, .int .i64 v2]) [.row 0 true 3 v3] 1
theorem impl_digits.eq (x0 x1 : Int) : impl_digits x0 x1 =
    impl_digits_l0 x0 x1 (0 : Int) ([] : List Int) := by kernel_rfl
theorem impl_digits_l0.eq (v0 v1 v2 : Int) (v3 : List Int) : impl_digits_l0 v0 v1 v2 v3 =
    bif decide (v2 < v1) then
      bif decide ((v3.length + ([IntKind.i64.wrap (((BitVec.ofInt 64 v0) &&& (BitVec.ofInt 64 (1 : Int))).toNat : Int)] : List Int).length) * 8 ≤ 140737488355328) then
        impl_digits_l0 (v0.fdiv (2 ^ 1)) v1 (IntKind.i64.wrap (v2 + (1 : Int))) (v3 ++ ([IntKind.i64.wrap (((BitVec.ofInt 64 v0) &&& (BitVec.ofInt 64 (1 : Int))).toNat : Int)] : List Int))
      else
        none
    else
      some v3 := (Lw_eq tysOk (getG_con (impl_digits.gok _)) _ _).trans (by kernel_rfl)

noncomputable abbrev impl_bitsOf.s : Sg := ⟨[.lend], [vl 3], ⟨[.agg [.int .i64, .sl true true 94]], [none]⟩, Try.f119⟩
noncomputable def impl_bitsOf.gs (δ : Type) : List (Nat × Callee (GT tab) δ) := []
theorem impl_bitsOf.gok (δ : Type) : AllCon Try.prog tab (impl_bitsOf.gs δ) := .nil
noncomputable def impl_bitsOf.c := cx impl_bitsOf.s [] [(3, [2, 3, 15, 16, 17])] false (impl_bitsOf.gs _)
noncomputable def impl_bitsOf (x0 : List Int) : Option (Int × (List Int)) := fnW impl_bitsOf.s impl_bitsOf.c x0
theorem impl_bitsOf.fok : FkS impl_bitsOf.s 119 := ⟨Try.func119, by kernel_rfl, by kernel_rfl⟩
noncomputable def impl_bitsOf.fn (x : Args tab impl_bitsOf.s.ar) : Option (ResT tab impl_bitsOf.s.rs) := impl_bitsOf x
noncomputable abbrev impl_bitsOf.k {δ : Type} : Callee (GT tab) δ := kS impl_bitsOf.s impl_bitsOf.fn
theorem impl_bitsOf.con {δ : Type} : Con Try.prog (KT tab) 119 (impl_bitsOf.k (δ := δ)) := con_shape (c := impl_bitsOf.c) mixed tysOk (getG_con (impl_bitsOf.gok _)) impl_bitsOf.fok rfl rfl fun _ => rfl
noncomputable def impl_bitsOf_l0 (v0 : List Int) (v1 v2 v3 : Int) (v4 : List Int) (v5 : Int) (v6 : List Int) : Option (Int × (List Int)) := lpW impl_bitsOf.s impl_bitsOf.c 0 (ud 19 [.undef, .undef, .ptr 0 0, .ptr 2 0, .undef, .undef, .undef, .undef, .undef, .undef, .undef, .undef, .undef, .undef, .undef, .vs false 3 v0, .int .i64 v1, .int .i64 v2]) [.box 32 [.int .i64 v3, .sl 1 0], .row 0 true 94 v4, .box 32 [.int .i64 v5, .sl 3 0], .row 0 true 94 v6] 4
theorem impl_bitsOf.eq (x0 : List Int) : impl_bitsOf x0 =
    bif decide ((0 : Int) ≤ IntKind.i64.wrap ((IntKind.i64.wrap ((IntKind.i64.wrap ((x0.length : Int) + (64 : Int))) - (1 : Int))).tdiv (64 : Int))) && decide (((IntKind.i64.wrap ((IntKind.i64.wrap ((IntKind.i64.wrap ((x0.length : Int) + (64 : Int))) - (1 : Int))).tdiv (64 : Int))).toNat) * 8 ≤ 140737488355328) then
      impl_bitsOf_l0 x0 (x0.length : Int) (0 : Int) (0 : Int) ([] : List Int) (x0.length : Int) (List.replicate ((IntKind.i64.wrap ((IntKind.i64.wrap ((IntKind.i64.wrap ((x0.length : Int) + (64 : Int))) - (1 : Int))).tdiv (64 : Int))).toNat) (0 : Int))
    else
      none := by kernel_rfl
theorem impl_bitsOf_l0.eq (v0 : List Int) (v1 v2 v3 : Int) (v4 : List Int) (v5 : Int) (v6 : List Int) : impl_bitsOf_l0 v0 v1 v2 v3 v4 v5 v6 =
    bif decide (v2 < v1) then
      (at? v0 v2).bind fun y1 =>
      (at? v6 (IntKind.i64.wrap (v2.tdiv (64 : Int)))).bind fun y2 =>
      v6[(IntKind.i64.wrap (v2.tdiv (64 : Int))).toNat]?.bind fun y3 =>
      bif decide (v2.tmod (64 : Int) < (0 : Int)) then
        none
      else
        (at? v6 (IntKind.i64.wrap (v2.tdiv (64 : Int)))).bind fun y4 =>
        v6[(IntKind.i64.wrap (v2.tdiv (64 : Int))).toNat]?.bind fun y5 =>
        impl_bitsOf_l0 v0 v1 (IntKind.i64.wrap (v2 + (1 : Int))) v3 v4 v5 (v6.set ((IntKind.i64.wrap (v2.tdiv (64 : Int))).toNat) (IntKind.u64.wrap (((BitVec.ofInt 64 y3) ||| (BitVec.ofInt 64 (IntKind.u64.wrap ((IntKind.u64.wrap y1) * 2 ^ (min (v2.tmod (64 : Int)).toNat 64))))).toNat : Int)))
    else
      some (v5, v6) := (Lw_eq tysOk (getG_con (impl_bitsOf.gok _)) _ _).trans (by kernel_rfl)

noncomputable abbrev impl_PackOf.s : Sg := ⟨[.lend, .lend], [vl 3, vi], ⟨[.agg [.int .i64, .int .i64, .int .i64, .sl true true 94], vb], [none, none]⟩, Try.f118⟩
noncomputable def impl_PackOf.gs (δ : Type) : List (Nat × Callee (GT tab) δ) := [(77, impl_within.k), (115, impl_areAll_int_PackOf_1.k), (119, impl_bitsOf.k), (134, impl_digits.k)]
theorem impl_PackOf.gok (δ : Type) : AllCon Try.prog tab (impl_PackOf.gs δ) := .cons impl_within.con (.cons impl_areAll_int_PackOf_1.con (.cons impl_bitsOf.con (.cons impl_digits.con .nil)))
noncomputable def impl_PackOf.c := cx impl_PackOf.s [3] [(3, [0, 3, 4]), (5, [0, 3, 4, 6, 31, 32, 33])] false (impl_PackOf.gs _)
noncomputable def impl_PackOf (x0 : List Int) (x1 : Int) : Option ((Int × Int × Int × (List Int)) × Bool) := fnW impl_PackOf.s impl_PackOf.c (x0, x1)
theorem impl_PackOf.fok : FkS impl_PackOf.s 118 := ⟨Try.func118, by kernel_rfl, by kernel_rfl⟩
noncomputable def impl_PackOf.fn (x : Args tab impl_PackOf.s.ar) : Option (ResT tab impl_PackOf.s.rs) := impl_PackOf x.1 x.2
noncomputable abbrev impl_PackOf.k {δ : Type} : Callee (GT tab) δ := kS impl_PackOf.s impl_PackOf.fn
theorem impl_PackOf.con {δ : Type} : Con Try.prog (KT tab) 118 (impl_PackOf.k (δ := δ)) := con_shape (c := impl_PackOf.c) mixed tysOk (getG_con (impl_PackOf.gok _)) impl_PackOf.fok rfl rfl fun _ => rfl
noncomputable def impl_PackOf_l0 (v0 : List Int) (v1 v2 v3 v4 : Int) (v5 : List Int) : Option ((Int × Int × Int × (List Int)) × Bool) := lpW impl_PackOf.s impl_PackOf.c 0 (ud 44 [.vs false 3 v0, .undef, .undef, .ptr 0 0, .ptr 1 0]) [.box 3 [.int .i64 v1], .box 34 [.int .i64 v2, .int .i64 v3, .int .i64 v4, .sl 2 0], .row 0 true 94 v5] 3
noncomputable def impl_PackOf_l1 (v0 v1 : List Int) (v2 v3 v4 v5 v6 v7 : Int) (v8 v9 : List Int) : Option ((Int × Int × Int × (List Int)) × Bool) := lpW impl_PackOf.s impl_PackOf.c 1 (ud 15 [.vs false 3 v0, .undef, .undef, .ptr 0 0, .ptr 1 0, .undef, .sl 3 0, .undef, .undef, .undef, .undef, .undef, .undef, .undef, .undef, .undef, .undef, .undef, .undef, .undef, .undef, .undef, .undef, .undef, .undef, .undef, .undef, .undef, .undef, .undef, .undef, .vs false 3 v1, .int .i64 v2, .int .i64 v3]) [.box 3 [.int .i64 v4], .box 34 [.int .i64 v5, .int .i64 v6, .int .i64 v7, .sl 2 0], .row 0 true 94 v8, .row 0 true 3 v9] 4
theorem impl_PackOf.eq (x0 : List Int) (x1 : Int) : impl_PackOf x0 x1 =
    (impl_within x1 (0 : Int) (32 : Int)).bind fun y1 =>
    bif !y1 then
      some (((0 : Int), (0 : Int), (0 : Int), ([] : List Int)), false)
    else
      bif decide ((x0.length : Int) > (5000 : Int)) then
        some (((0 : Int), (0 : Int), (0 : Int), ([] : List Int)), false)
      else
        bif decide (IntKind.i64.wrap ((x0.length : Int) * x1) > (5000 : Int)) then
          some (((0 : Int), (0 : Int), (0 : Int), ([] : List Int)), false)
        else
          (impl_areAll_int_PackOf_1 x0 x1).bind fun y2 =>
          bif !y2 then
            some (((0 : Int), (0 : Int), (0 : Int), ([] : List Int)), false)
          else
            impl_PackOf_l0 x0 x1 (0 : Int) (0 : Int) (0 : Int) ([] : List Int) := by kernel_rfl
theorem impl_PackOf_l0.eq (v0 : List Int) (v1 v2 v3 v4 : Int) (v5 : List Int) : impl_PackOf_l0 v0 v1 v2 v3 v4 v5 =
    impl_PackOf_l1 v0 v0 (v0.length : Int) (0 : Int) v1 v2 v3 v4 v5 ([] : List Int) := (Lw_eq tysOk (getG_con (impl_PackOf.gok _)) _ _).trans (by kernel_rfl)
theorem impl_PackOf_l1.eq (v0 v1 : List Int) (v2 v3 v4 v5 v6 v7 : Int) (v8 v9 : List Int) : impl_PackOf_l1 v0 v1 v2 v3 v4 v5 v6 v7 v8 v9 =
    bif decide (v3 < v2) then
      (at? v1 v3).bind fun y1 =>
      (impl_digits y1 v4).bind fun y2 =>
      bif decide ((v9.length + y2.length) * 8 ≤ 140737488355328) then
        impl_PackOf_l1 v0 v1 v2 (IntKind.i64.wrap (v3 + (1 : Int))) v4 v5 v6 v7 v8 (v9 ++ y2)
      else
        none
    else
      (impl_bitsOf v9).bind fun y3 =>
      some ((v4, (v0.length : Int), y3.1, y3.2), true) := (Lw_eq tysOk (getG_con (impl_PackOf.gok _)) _ _).trans (by kernel_rfl)

noncomputable abbrev impl_SparseOf.s : Sg := ⟨[.lend, .lend], [vl 3, vi], ⟨[.agg [.int .i64, .int .i64, .int .i64, .int .i64, .int .i64, .sl true true 94, .int .i64, .sl true true 94], vb], [none, none]⟩, Try.f92⟩
noncomputable def impl_SparseOf.gs (δ : Type) : List (Nat × Callee (GT tab) δ) := [(77, impl_within.k), (114, slices_IsSorted_int_int.k), (115, impl_areAll_int_SparseOf_1.k), (117, impl_lowWidth.k), (118, impl_PackOf.k), (119, impl_bitsOf.k)]
theorem impl_SparseOf.gok (δ : Type) : AllCon Try.prog tab (impl_SparseOf.gs δ) := .cons impl_within.con (.cons slices_IsSorted_int_int.con (.cons impl_areAll_int_SparseOf_1.con (.cons impl_lowWidth.con (.cons impl_PackOf.con (.cons impl_bitsOf.con .nil)))))
noncomputable def impl_SparseOf.c := cx impl_SparseOf.s [3] [(3, [0, 3, 4]), (8, [0, 3, 4, 6, 7, 8, 41, 42, 43]), (10, [0, 3, 4, 6, 7, 8, 10, 41, 42, 43]), (14, [0, 3, 4, 6, 7, 8])] false (impl_SparseOf.gs _)
noncomputable def impl_SparseOf (x0 : List Int) (x1 : Int) : Option ((Int × Int × Int × Int × Int × (List Int) × Int × (List Int)) × Bool) := fnW impl_SparseOf.s impl_SparseOf.c (x0, x1)
theorem impl_SparseOf.fok : FkS impl_SparseOf.s 92 := ⟨Try.func92, by kernel_rfl, by kernel_rfl⟩
noncomputable def impl_SparseOf.fn (x : Args tab impl_SparseOf.s.ar) : Option (ResT tab impl_SparseOf.s.rs) := impl_SparseOf x.1 x.2
noncomputable abbrev impl_SparseOf.k {δ : Type} : Callee (GT tab) δ := kS impl_SparseOf.s impl_SparseOf.fn
theorem impl_SparseOf.con {δ : Type} : Con Try.prog (KT tab) 92 (impl_SparseOf.k (δ := δ)) := con_shape (c := impl_SparseOf.c) mixed tysOk (getG_con (impl_SparseOf.gok _)) impl_SparseOf.fok rfl rfl fun _ => rfl
noncomputable def impl_SparseOf_l0 (v0 : List Int) (v1 v2 v3 v4 v5 v6 v7 : Int) (v8 v9 : List Int) : Option ((Int × Int × Int × Int × Int × (List Int) × Int × (List Int)) × Bool) := lpW impl_SparseOf.s impl_SparseOf.c 0 (ud 94 [.vs false 3 v0, .undef, .undef, .ptr 0 0, .ptr 1 0]) [.box 3 [.int .i64 v1], .box 36 [.int .i64 v2, .int .i64 v3, .int .i64 v4, .int .i64 v5, .int .i64 v6, .sl 2 0, .int .i64 v7, .sl 3 0], .row 0 true 94 v8, .row 0 true 94 v9] 4
noncomputable def impl_SparseOf_l1 (v0 : List Int) (v1 : Int) (v2 : List Int) (v3 v4 v5 v6 v7 v8 v9 v10 v11 : Int) (v12 v13 v14 v15 : List Int) : Option ((Int × Int × Int × Int × Int × (List Int) × Int × (List Int)) × Bool) := lpW impl_SparseOf.s impl_SparseOf.c 1 (ud 55 [.vs false 3 v0, .undef, .undef, .ptr 0 0, .ptr 1 0, .undef, .int .i64 v1, .sl 4 0, .sl 5 0, .undef, .undef, .undef, .undef, .undef, .undef, .undef, .undef, .undef, .undef, .undef, .undef, .undef, .undef, .undef, .undef, .undef, .undef, .undef, .undef, .undef, .undef, .undef, .undef, .undef, .undef, .undef, .undef, .undef, .undef, .undef, .undef, .vs false 3 v2, .int .i64 v3, .int .i64 v4]) [.box 3 [.int .i64 v5], .box 36 [.int .i64 v6, .int .i64 v7, .int .i64 v8, .int .i64 v9, .int .i64 v10, .sl 2 0, .int .i64 v11, .sl 3 0], .row 0 true 94 v12, .row 0 true 94 v13, .row 0 true 3 v14, .row 0 true 3 v15] 6
noncomputable def impl_SparseOf_l2 (v0 : List Int) (v1 v2 : Int) (v3 : List Int) (v4 v5 v6 v7 v8 v9 v10 v11 v12 : Int) (v13 v14 v15 v16 : List Int) : Option ((Int × Int × Int × Int × Int × (List Int) × Int × (List Int)) × Bool) := lpW impl_SparseOf.s impl_SparseOf.c 2 (ud 55 [.vs false 3 v0, .undef, .undef, .ptr 0 0, .ptr 1 0, .undef, .int .i64 v1, .sl 4 0, .sl 5 0, .undef, .int .i64 v2, .undef, .undef, .undef, .undef, .undef, .undef, .undef, .undef, .undef, .undef, .undef, .undef, .undef, .undef, .undef, .undef, .undef, .undef, .undef, .undef, .undef, .undef, .undef, .undef, .undef, .undef, .undef, .undef, .undef, .undef, .vs false 3 v3, .int .i64 v4, .int .i64 v5]) [.box 3 [.int .i64 v6], .box 36 [.int .i64 v7, .int .i64 v8, .int .i64 v9, .int .i64 v10, .int .i64 v11, .sl 2 0, .int .i64 v12, .sl 3 0], .row 0 true 94 v13, .row 0 true 94 v14, .row 0 true 3 v15, .row 0 true 3 v16] 6
noncomputable def impl_SparseOf_l3 (v0 : List Int) (v1 v2 v3 v4 v5 v6 v7 v8 : Int) (v9 v10 v11 v12 : List Int) : Option ((Int × Int × Int × Int × Int × (List Int) × Int × (List Int)) × Bool) := lpW impl_SparseOf.s impl_SparseOf.c 3 (ud 90 [.vs false 3 v0, .undef, .undef, .ptr 0 0, .ptr 1 0, .undef, .int .i64 v1, .sl 4 0, .sl 5 0]) [.box 3 [.int .i64 v2], .box 36 [.int .i64 v3, .int .i64 v4, .int .i64 v5, .int .i64 v6, .int .i64 v7, .sl 2 0, .int .i64 v8, .sl 3 0], .row 0 true 94 v9, .row 0 true 94 v10, .row 0 true 3 v11, .row 0 true 3 v12] 6
theorem impl_SparseOf.eq (x0 : List Int) (x1 : Int) : impl_SparseOf x0 x1 =
    (impl_within x1 (0 : Int) (1000000 : Int)).bind fun y1 =>
    bif !y1 then
      some (((0 : Int), (0 : Int), (0 : Int), (0 : Int), (0 : Int), ([] : List Int), (0 : Int), ([] : List Int)), false)
    else
      (slices_IsSorted_int_int x0).bind fun y2 =>
      bif !y2 then
        some (((0 : Int), (0 : Int), (0 : Int), (0 : Int), (0 : Int), ([] : List Int), (0 : Int), ([] : List Int)), false)
      else
        (impl_areAll_int_SparseOf_1 x0 x1).bind fun y3 =>
        bif !y3 then
          some (((0 : Int), (0 : Int), (0 : Int), (0 : Int), (0 : Int), ([] : List Int), (0 : Int), ([] : List Int)), false)
        else
          impl_SparseOf_l0 x0 x1 (0 : Int) (0 : Int) (0 : Int) (0 : Int) (0 : Int) (0 : Int) ([] : List Int) ([] : List Int) := by kernel_rfl
theorem impl_SparseOf_l0.eq (v0 : List Int) (v1 v2 v3 v4 v5 v6 v7 : Int) (v8 v9 : List Int) : impl_SparseOf_l0 v0 v1 v2 v3 v4 v5 v6 v7 v8 v9 =
    (impl_lowWidth v1 (v0.length : Int)).bind fun y1 =>
    bif decide (y1 < (0 : Int)) then
      none
    else
      bif decide (IntKind.i64.wrap ((IntKind.i64.wrap ((v0.length : Int) + (v1.fdiv (2 ^ (min y1.toNat 64))))) + (1 : Int)) > (5000 : Int)) then
        some (((0 : Int), (0 : Int), (0 : Int), (0 : Int), (0 : Int), ([] : List Int), (0 : Int), ([] : List Int)), false)
      else
        impl_SparseOf_l1 v0 y1 v0 (v0.length : Int) (0 : Int) v1 v2 v3 v4 v5 v6 v7 v8 v9 ([] : List Int) ([] : List Int) := (Lw_eq tysOk (getG_con (impl_SparseOf.gok _)) _ _).trans (by kernel_rfl)
theorem impl_SparseOf_l1.eq (v0 : List Int) (v1 : Int) (v2 : List Int) (v3 v4 v5 v6 v7 v8 v9 v10 v11 : Int) (v12 v13 v14 v15 : List Int) : impl_SparseOf_l1 v0 v1 v2 v3 v4 v5 v6 v7 v8 v9 v10 v11 v12 v13 v14 v15 =
    bif decide (v4 < v3) then
      (at? v2 v4).bind fun y1 =>
      impl_SparseOf_l2 v0 v1 y1 v2 v3 v4 v5 v6 v7 v8 v9 v10 v11 v12 v13 v14 v15
    else
      impl_SparseOf_l3 v0 v1 v5 v6 v7 v8 v9 v10 v11 v12 v13 v14 v15 := (Lw_eq tysOk (getG_con (impl_SparseOf.gok _)) _ _).trans (by kernel_rfl)
theorem impl_SparseOf_l2.eq (v0 : List Int) (v1 v2 : Int) (v3 : List Int) (v4 v5 v6 v7 v8 v9 v10 v11 v12 : Int) (v13 v14 v15 v16 : List Int) : impl_SparseOf_l2 v0 v1 v2 v3 v4 v5 v6 v7 v8 v9 v10 v11 v12 v13 v14 v15 v16 =
    bif decide (v1 < (0 : Int)) then
      none
    else
      bif decide (IntKind.i64.wrap ((v16.length : Int) - (v15.length : Int)) < v2.fdiv (2 ^ (min v1.toNat 64))) then
        bif decide ((v16.length + ([(0 : Int)] : List Int).length) * 8 ≤ 140737488355328) then
          impl_SparseOf_l2 v0 v1 v2 v3 v4 v5 v6 v7 v8 v9 v10 v11 v12 v13 v14 v15 (v16 ++ ([(0 : Int)] : List Int))
        else
          none
      else
        bif decide ((v16.length + ([(1 : Int)] : List Int).length) * 8 ≤ 140737488355328) then
          bif decide (v1 < (0 : Int)) then
            none
          else
            bif decide ((v15.length + ([IntKind.i64.wrap (((BitVec.ofInt 64 v2) &&& (BitVec.ofInt 64 (IntKind.i64.wrap ((IntKind.i64.wrap ((1 : Int) * 2 ^ (min v1.toNat 64))) - (1 : Int))))).toNat : Int)] : List Int).length) * 8 ≤ 140737488355328) then
              impl_SparseOf_l1 v0 v1 v3 v4 (IntKind.i64.wrap (v5 + (1 : Int))) v6 v7 v8 v9 v10 v11 v12 v13 v14 (v15 ++ ([IntKind.i64.wrap (((BitVec.ofInt 64 v2) &&& (BitVec.ofInt 64 (IntKind.i64.wrap ((IntKind.i64.wrap ((1 : Int) * 2 ^ (min v1.toNat 64))) - (1 : Int))))).toNat : Int)] : List Int)) (v16 ++ ([(1 : Int)] : List Int))
            else
              none
        else
          none := (Lw_eq tysOk (getG_con (impl_SparseOf.gok _)) _ _).trans (by kernel_rfl)
theorem impl_SparseOf_l3.eq (v0 : List Int) (v1 v2 v3 v4 v5 v6 v7 v8 : Int) (v9 v10 v11 v12 : List Int) : impl_SparseOf_l3 v0 v1 v2 v3 v4 v5 v6 v7 v8 v9 v10 v11 v12 =
    bif decide (v1 < (0 : Int)) then
      none
    else
      bif decide (IntKind.i64.wrap ((v12.length : Int) - (v11.length : Int)) ≤ v2.fdiv (2 ^ (min v1.toNat 64))) then
        bif decide ((v12.length + ([(0 : Int)] : List Int).length) * 8 ≤ 140737488355328) then
          impl_SparseOf_l3 v0 v1 v2 v3 v4 v5 v6 v7 v8 v9 v10 v11 (v12 ++ ([(0 : Int)] : List Int))
        else
          none
      else
        (impl_PackOf v11 v1).bind fun y1 =>
        bif !y1.2 then
          some (((0 : Int), (0 : Int), (0 : Int), (0 : Int), (0 : Int), ([] : List Int), (0 : Int), ([] : List Int)), false)
        else
          (impl_bitsOf v12).bind fun y2 =>
          some ((v2, (v0.length : Int), y1.1.1, y1.1.2.1, y1.1.2.2.1, y1.1.2.2.2, y2.1, y2.2), true) := (Lw_eq tysOk (getG_con (impl_SparseOf.gok _)) _ _).trans (by kernel_rfl)

noncomputable abbrev slices_Equal_uint64_uint64.s : Sg := ⟨[.lend, .lend], [vl 94, vl 94], ⟨[vb], [none, none]⟩, Try.f120⟩
noncomputable def slices_Equal_uint64_uint64.gs (δ : Type) : List (Nat × Callee (GT tab) δ) := []
theorem slices_Equal_uint64_uint64.gok (δ : Type) : AllCon Try.prog tab (slices_Equal_uint64_uint64.gs δ) := .nil
noncomputable def slices_Equal_uint64_uint64.c := cx slices_Equal_uint64_uint64.s [] [(4, [0, 1, 12, 13])] false (slices_Equal_uint64_uint64.gs _)
noncomputable def slices_Equal_uint64_uint64 (x0 x1 : List Int) : Option (Bool) := fnW slices_Equal_uint64_uint64.s slices_Equal_uint64_uint64.c (x0, x1)
theorem slices_Equal_uint64_uint64.fok : FkS slices_Equal_uint64_uint64.s 120 := ⟨Try.func120, by kernel_rfl, by kernel_rfl⟩
noncomputable def slices_Equal_uint64_uint64.fn (x : Args tab slices_Equal_uint64_uint64.s.ar) : Option (ResT tab slices_Equal_uint64_uint64.s.rs) := slices_Equal_uint64_uint64 x.1 x.2
noncomputable abbrev slices_Equal_uint64_uint64.k {δ : Type} : Callee (GT tab) δ := kS slices_Equal_uint64_uint64.s slices_Equal_uint64_uint64.fn
theorem slices_Equal_uint64_uint64.con {δ : Type} : Con Try.prog (KT tab) 120 (slices_Equal_uint64_uint64.k (δ := δ)) := con_shape (c := slices_Equal_uint64_uint64.c) mixed tysOk (getG_con (slices_Equal_uint64_uint64.gok _)) slices_Equal_uint64_uint64.fok rfl rfl fun _ => rfl
noncomputable def slices_Equal_uint64_uint64_l0 (v0 v1 : List Int) (v2 v3 : Int) : Option (Bool) := lpW slices_Equal_uint64_uint64.s slices_Equal_uint64_uint64.c 0 (ud 12 [.vs false 94 v0, .vs false 94 v1, .undef, .undef, .undef, .undef, .undef, .undef, .undef, .undef, .undef, .undef, .int .i64 v2, .int .i64 v3]) [] 0
theorem slices_Equal_uint64_uint64.eq (x0 x1 : List Int) : slices_Equal_uint64_uint64 x0 x1 =
    bif (x0.length : Int) != (x1.length : Int) then
      some false
    else
      slices_Equal_uint64_uint64_l0 x0 x1 (x0.length : Int) (0 : Int) := by kernel_rfl
theorem slices_Equal_uint64_uint64_l0.eq (v0 v1 : List Int) (v2 v3 : Int) : slices_Equal_uint64_uint64_l0 v0 v1 v2 v3 =
    bif decide (v3 < v2) then
      (at? v0 v3).bind fun y1 =>
      (at? v1 v3).bind fun y2 =>
      bif y1 != y2 then
        some false
      else
        slices_Equal_uint64_uint64_l0 v0 v1 v2 (IntKind.i64.wrap (v3 + (1 : Int)))
    else
      some true := (Lw_eq tysOk (getG_con (slices_Equal_uint64_uint64.gok _)) _ _).trans (by kernel_rfl)

noncomputable abbrev impl_sameBits.s : Sg := ⟨[.lend, .lend], [.agg [.int .i64, .sl false false 94], .agg [.int .i64, .sl false false 94]], ⟨[vb], [none, none]⟩, Try.f94⟩
noncomputable def impl_sameBits.gs (δ : Type) : List (Nat × Callee (GT tab) δ) := [(120, slices_Equal_uint64_uint64.k)]
theorem impl_sameBits.gok (δ : Type) : AllCon Try.prog tab (impl_sameBits.gs δ) := .cons slices_Equal_uint64_uint64.con .nil
noncomputable def impl_sameBits.c := cx impl_sameBits.s [] [] false (impl_sameBits.gs _)
noncomputable def impl_sameBits (x0 x1 : Int × (List Int)) : Option (Bool) := fnW impl_sameBits.s impl_sameBits.c (x0, x1)
theorem impl_sameBits.fok : FkS impl_sameBits.s 94 := ⟨Try.func94, by kernel_rfl, by kernel_rfl⟩
noncomputable def impl_sameBits.fn (x : Args tab impl_sameBits.s.ar) : Option (ResT tab impl_sameBits.s.rs) := impl_sameBits x.1 x.2
noncomputable abbrev impl_sameBits.k {δ : Type} : Callee (GT tab) δ := kS impl_sameBits.s impl_sameBits.fn
theorem impl_sameBits.con {δ : Type} : Con Try.prog (KT tab) 94 (impl_sameBits.k (δ := δ)) := con_shape (c := impl_sameBits.c) mixed tysOk (getG_con (impl_sameBits.gok _)) impl_sameBits.fok rfl rfl fun _ => rfl
theorem impl_sameBits.eq (x0 x1 : Int × (List Int)) : impl_sameBits x0 x1 =
    bif x0.1 == x1.1 then
      (slices_Equal_uint64_uint64 x0.2 x1.2).bind fun y1 =>
      some y1
    else
      some false := by kernel_rfl

noncomputable abbrev impl_samePacked.s : Sg := ⟨[.lend, .lend], [.agg [.int .i64, .int .i64, .int .i64, .sl false false 94], .agg [.int .i64, .int .i64, .int .i64, .sl false false 94]], ⟨[vb], [none, none]⟩, Try.f93⟩
noncomputable def impl_samePacked.gs (δ : Type) : List (Nat × Callee (GT tab) δ) := [(94, impl_sameBits.k)]
theorem impl_samePacked.gok (δ : Type) : AllCon Try.prog tab (impl_samePacked.gs δ) := .cons impl_sameBits.con .nil
noncomputable def impl_samePacked.c := cx impl_samePacked.s [] [] false (impl_samePacked.gs _)
noncomputable def impl_samePacked (x0 x1 : Int × Int × Int × (List Int)) : Option (Bool) := fnW impl_samePacked.s impl_samePacked.c (x0, x1)
theorem impl_samePacked.fok : FkS impl_samePacked.s 93 := ⟨Try.func93, by kernel_rfl, by kernel_rfl⟩
noncomputable def impl_samePacked.fn (x : Args tab impl_samePacked.s.ar) : Option (ResT tab impl_samePacked.s.rs) := impl_samePacked x.1 x.2
noncomputable abbrev impl_samePacked.k {δ : Type} : Callee (GT tab) δ := kS impl_samePacked.s impl_samePacked.fn
theorem impl_samePacked.con {δ : Type} : Con Try.prog (KT tab) 93 (impl_samePacked.k (δ := δ)) := con_shape (c := impl_samePacked.c) mixed tysOk (getG_con (impl_samePacked.gok _)) impl_samePacked.fok rfl rfl fun _ => rfl
theorem impl_samePacked.eq (x0 x1 : Int × Int × Int × (List Int)) : impl_samePacked x0 x1 =
    bif x0.1 == x1.1 then
      bif x0.2.1 == x1.2.1 then
        (impl_sameBits x0.2.2 x1.2.2).bind fun y1 =>
        some y1
      else
        some false
    else
      some false := by kernel_rfl

noncomputable abbrev impl_Sparse_read.s : Sg := ⟨[.lend], [.agg [.int .i64, .int .i64, .int .i64, .int .i64, .int .i64, .sl false false 94, .int .i64, .sl false false 94]], ⟨[vo 3, vb], [none]⟩, Try.f47⟩
noncomputable def impl_Sparse_read.gs (δ : Type) : List (Nat × Callee (GT tab) δ) := [(90, impl_PackList.k), (91, impl_BitsList.k), (92, impl_SparseOf.k), (93, impl_samePacked.k), (94, impl_sameBits.k)]
theorem impl_Sparse_read.gok (δ : Type) : AllCon Try.prog tab (impl_Sparse_read.gs δ) := .cons impl_PackList.con (.cons impl_BitsList.con (.cons impl_SparseOf.con (.cons impl_samePacked.con (.cons impl_sameBits.con .nil))))
noncomputable def impl_Sparse_read.c := cx impl_Sparse_read.s [] [(5, [1, 4, 6, 7, 18, 19, 20])] false (impl_Sparse_read.gs _)
noncomputable def impl_Sparse_read (x0 : Int × Int × Int × Int × Int × (List Int) × Int × (List Int)) : Option ((List Int) × Bool) := fnW impl_Sparse_read.s impl_Sparse_read.c x0
theorem impl_Sparse_read.fok : FkS impl_Sparse_read.s 47 := ⟨Try.func47, by kernel_rfl, by kernel_rfl⟩
noncomputable def impl_Sparse_read.fn (x : Args tab impl_Sparse_read.s.ar) : Option (ResT tab impl_Sparse_read.s.rs) := impl_Sparse_read x
noncomputable abbrev impl_Sparse_read.k {δ : Type} : Callee (GT tab) δ := kS impl_Sparse_read.s impl_Sparse_read.fn
theorem impl_Sparse_read.con {δ : Type} : Con Try.prog (KT tab) 47 (impl_Sparse_read.k (δ := δ)) := con_shape (c := impl_Sparse_read.c) mixed tysOk (getG_con (impl_Sparse_read.gok _)) impl_Sparse_read.fok rfl rfl fun _ => rfl
noncomputable def impl_Sparse_read_l0 (v0 v1 v2 v3 v4 v5 v6 v7 : Int) (v8 : List Int) (v9 : Int) (v10 v11 v12 v13 : List Int) : Option ((List Int) × Bool) := lpW impl_Sparse_read.s impl_Sparse_read.c 0 (ud 59 [.undef, .ptr 0 0, .undef, .undef, .sl 1 0, .undef, .sl 2 0, .int .i64 v0, .undef, .undef, .undef, .undef, .undef, .undef, .undef, .undef, .undef, .undef, .sl 3 0, .int .i64 v1, .int .i64 v2]) [.box 36 [.int .i64 v3, .int .i64 v4, .int .i64 v5, .int .i64 v6, .int .i64 v7, .vs false 94 v8, .int .i64 v9, .vs false 94 v10], .row 0 true 3 v11, .row 0 true 3 v12, .row 0 true 3 v13] 4
theorem impl_Sparse_read.eq (x0 : Int × Int × Int × Int × Int × (List Int) × Int × (List Int)) : impl_Sparse_read x0 =
    (impl_PackList (x0.2.2.1, x0.2.2.2.1, x0.2.2.2.2.1, x0.2.2.2.2.2.1)).bind fun y1 =>
    (impl_BitsList x0.2.2.2.2.2.2).bind fun y2 =>
    impl_Sparse_read_l0 (0 : Int) (y2.length : Int) (0 : Int) x0.1 x0.2.1 x0.2.2.1 x0.2.2.2.1 x0.2.2.2.2.1 x0.2.2.2.2.2.1 x0.2.2.2.2.2.2.1 x0.2.2.2.2.2.2.2 y1 ([] : List Int) y2 := by kernel_rfl
theorem impl_Sparse_read_l0.eq (v0 v1 v2 v3 v4 v5 v6 v7 : Int) (v8 : List Int) (v9 : Int) (v10 v11 v12 v13 : List Int) : impl_Sparse_read_l0 v0 v1 v2 v3 v4 v5 v6 v7 v8 v9 v10 v11 v12 v13 =
    bif decide (v2 < v1) then
      (at? v13 v2).bind fun y1 =>
      v13[v2.toNat]?.bind fun y2 =>
      bif y2 == (0 : Int) then
        impl_Sparse_read_l0 (IntKind.i64.wrap (v0 + (1 : Int))) v1 (IntKind.i64.wrap (v2 + (1 : Int))) v3 v4 v5 v6 v7 v8 v9 v10 v11 v12 v13
      else
        bif (v12.length : Int) == (v11.length : Int) then
          some (([] : List Int), false)
        else
          bif decide (v5 < (0 : Int)) then
            none
          else
            (at? v11 (v12.length : Int)).bind fun y3 =>
            v11[(v12.length : Int).toNat]?.bind fun y4 =>
            bif decide ((v12.length + ([IntKind.i64.wrap (((BitVec.ofInt 64 (IntKind.i64.wrap (v0 * 2 ^ (min v5.toNat 64)))) ||| (BitVec.ofInt 64 y4)).toNat : Int)] : List Int).length) * 8 ≤ 140737488355328) then
              impl_Sparse_read_l0 v0 v1 (IntKind.i64.wrap (v2 + (1 : Int))) v3 v4 v5 v6 v7 v8 v9 v10 v11 (v12 ++ ([IntKind.i64.wrap (((BitVec.ofInt 64 (IntKind.i64.wrap (v0 * 2 ^ (min v5.toNat 64)))) ||| (BitVec.ofInt 64 y4)).toNat : Int)] : List Int)) v13
            else
              none
    else
      (impl_SparseOf v12 v3).bind fun y5 =>
      bif y5.2 then
        bif y5.1.2.1 == v4 then
          (impl_samePacked (y5.1.2.2.1, y5.1.2.2.2.1, y5.1.2.2.2.2.1, y5.1.2.2.2.2.2.1) (v5, v6, v7, v8)).bind fun y6 =>
          bif y6 then
            (impl_sameBits y5.1.2.2.2.2.2.2 (v9, v10)).bind fun y7 =>
            some (v12, y7)
          else
            some (v12, false)
        else
          some (v12, false)
      else
        some (v12, false) := (Lw_eq tysOk (getG_con (impl_Sparse_read.gok _)) _ _).trans (by kernel_rfl)

noncomputable abbrev impl_SparseList.s : Sg := ⟨[.lend], [.agg [.int .i64, .int .i64, .int .i64, .int .i64, .int .i64, .sl false false 94, .int .i64, .sl false false 94]], ⟨[vo 3], [none]⟩, Try.f10⟩
noncomputable def impl_SparseList.gs (δ : Type) : List (Nat × Callee (GT tab) δ) := [(47, impl_Sparse_read.k)]
theorem impl_SparseList.gok (δ : Type) : AllCon Try.prog tab (impl_SparseList.gs δ) := .cons impl_Sparse_read.con .nil
noncomputable def impl_SparseList.c := cx impl_SparseList.s [] [] false (impl_SparseList.gs _)
noncomputable def impl_SparseList (x0 : Int × Int × Int × Int × Int × (List Int) × Int × (List Int)) : Option (List Int) := fnW impl_SparseList.s impl_SparseList.c x0
theorem impl_SparseList.fok : FkS impl_SparseList.s 10 := ⟨Try.func10, by kernel_rfl, by kernel_rfl⟩
noncomputable def impl_SparseList.fn (x : Args tab impl_SparseList.s.ar) : Option (ResT tab impl_SparseList.s.rs) := impl_SparseList x
noncomputable abbrev impl_SparseList.k {δ : Type} : Callee (GT tab) δ := kS impl_SparseList.s impl_SparseList.fn
theorem impl_SparseList.con {δ : Type} : Con Try.prog (KT tab) 10 (impl_SparseList.k (δ := δ)) := con_shape (c := impl_SparseList.c) mixed tysOk (getG_con (impl_SparseList.gok _)) impl_SparseList.fok rfl rfl fun _ => rfl
theorem impl_SparseList.eq (x0 : Int × Int × Int × Int × Int × (List Int) × Int × (List Int)) : impl_SparseList x0 =
    (impl_Sparse_read x0).bind fun y1 =>
    bif !y1.2 then
      some ([] : List Int)
    else
      some y1.1 := by kernel_rfl

noncomputable abbrev laws_eqPacked.s : Sg := ⟨[.lend, .lend], [.agg [.int .i64, .int .i64, .int .i64, .sl false false 94], .agg [.int .i64, .int .i64, .int .i64, .sl false false 94]], ⟨[vb], [none, none]⟩, Try.f48⟩
noncomputable def laws_eqPacked.gs (δ : Type) : List (Nat × Callee (GT tab) δ) := [(49, laws_eqBits.k)]
theorem laws_eqPacked.gok (δ : Type) : AllCon Try.prog tab (laws_eqPacked.gs δ) := .cons laws_eqBits.con .nil
noncomputable def laws_eqPacked.c := cx laws_eqPacked.s [] [] false (laws_eqPacked.gs _)
noncomputable def laws_eqPacked (x0 x1 : Int × Int × Int × (List Int)) : Option (Bool) := fnW laws_eqPacked.s laws_eqPacked.c (x0, x1)
theorem laws_eqPacked.fok : FkS laws_eqPacked.s 48 := ⟨Try.func48, by kernel_rfl, by kernel_rfl⟩
noncomputable def laws_eqPacked.fn (x : Args tab laws_eqPacked.s.ar) : Option (ResT tab laws_eqPacked.s.rs) := laws_eqPacked x.1 x.2
noncomputable abbrev laws_eqPacked.k {δ : Type} : Callee (GT tab) δ := kS laws_eqPacked.s laws_eqPacked.fn
theorem laws_eqPacked.con {δ : Type} : Con Try.prog (KT tab) 48 (laws_eqPacked.k (δ := δ)) := con_shape (c := laws_eqPacked.c) mixed tysOk (getG_con (laws_eqPacked.gok _)) laws_eqPacked.fok rfl rfl fun _ => rfl
theorem laws_eqPacked.eq (x0 x1 : Int × Int × Int × (List Int)) : laws_eqPacked x0 x1 =
    bif x0.1 != x1.1 then
      some false
    else
      bif x0.2.1 != x1.2.1 then
        some false
      else
        (laws_eqBits x0.2.2 x1.2.2).bind fun y1 =>
        bif !y1 then
          some false
        else
          some true := by kernel_rfl

noncomputable abbrev laws_eqSparse.s : Sg := ⟨[.lend, .lend], [.agg [.int .i64, .int .i64, .int .i64, .int .i64, .int .i64, .sl false false 94, .int .i64, .sl false false 94], .agg [.int .i64, .int .i64, .int .i64, .int .i64, .int .i64, .sl false false 94, .int .i64, .sl false false 94]], ⟨[vb], [none, none]⟩, Try.f12⟩
noncomputable def laws_eqSparse.gs (δ : Type) : List (Nat × Callee (GT tab) δ) := [(48, laws_eqPacked.k), (49, laws_eqBits.k)]
theorem laws_eqSparse.gok (δ : Type) : AllCon Try.prog tab (laws_eqSparse.gs δ) := .cons laws_eqPacked.con (.cons laws_eqBits.con .nil)
noncomputable def laws_eqSparse.c := cx laws_eqSparse.s [] [] false (laws_eqSparse.gs _)
noncomputable def laws_eqSparse (x0 x1 : Int × Int × Int × Int × Int × (List Int) × Int × (List Int)) : Option (Bool) := fnW laws_eqSparse.s laws_eqSparse.c (x0, x1)
theorem laws_eqSparse.fok : FkS laws_eqSparse.s 12 := ⟨Try.func12, by kernel_rfl, by kernel_rfl⟩
noncomputable def laws_eqSparse.fn (x : Args tab laws_eqSparse.s.ar) : Option (ResT tab laws_eqSparse.s.rs) := laws_eqSparse x.1 x.2
noncomputable abbrev laws_eqSparse.k {δ : Type} : Callee (GT tab) δ := kS laws_eqSparse.s laws_eqSparse.fn
theorem laws_eqSparse.con {δ : Type} : Con Try.prog (KT tab) 12 (laws_eqSparse.k (δ := δ)) := con_shape (c := laws_eqSparse.c) mixed tysOk (getG_con (laws_eqSparse.gok _)) laws_eqSparse.fok rfl rfl fun _ => rfl
theorem laws_eqSparse.eq (x0 x1 : Int × Int × Int × Int × Int × (List Int) × Int × (List Int)) : laws_eqSparse x0 x1 =
    bif x0.1 != x1.1 then
      some false
    else
      bif x0.2.1 != x1.2.1 then
        some false
      else
        (laws_eqPacked (x0.2.2.1, x0.2.2.2.1, x0.2.2.2.2.1, x0.2.2.2.2.2.1) (x1.2.2.1, x1.2.2.2.1, x1.2.2.2.2.1, x1.2.2.2.2.2.1)).bind fun y1 =>
        bif !y1 then
          some false
        else
          (laws_eqBits x0.2.2.2.2.2.2 x1.2.2.2.2.2.2).bind fun y2 =>
          bif !y2 then
            some false
          else
            some true := by kernel_rfl

noncomputable abbrev laws_markUint64S.s : Sg := ⟨[.keep, .lend], [vo 94, vi], ⟨[vi], [some (vo 94), none]⟩, Try.f96⟩
noncomputable def laws_markUint64S.gs (δ : Type) : List (Nat × Callee (GT tab) δ) := []
theorem laws_markUint64S.gok (δ : Type) : AllCon Try.prog tab (laws_markUint64S.gs δ) := .nil
noncomputable def laws_markUint64S.c := cx laws_markUint64S.s [] [(2, [0, 1, 5])] false (laws_markUint64S.gs _)
noncomputable def laws_markUint64S (x0 : List Int) (x1 : Int) : Option (Int × (List Int)) := fnW laws_markUint64S.s laws_markUint64S.c (x0, x1)
theorem laws_markUint64S.fok : FkS laws_markUint64S.s 96 := ⟨Try.func96, by kernel_rfl, by kernel_rfl⟩
noncomputable def laws_markUint64S.fn (x : Args tab laws_markUint64S.s.ar) : Option (ResT tab laws_markUint64S.s.rs) := laws_markUint64S x.1 x.2
noncomputable abbrev laws_markUint64S.k {δ : Type} : Callee (GT tab) δ := kS laws_markUint64S.s laws_markUint64S.fn
theorem laws_markUint64S.con {δ : Type} : Con Try.prog (KT tab) 96 (laws_markUint64S.k (δ := δ)) := con_shape (c := laws_markUint64S.c) mixed tysOk (getG_con (laws_markUint64S.gok _)) laws_markUint64S.fok rfl rfl fun _ => rfl
noncomputable def laws_markUint64S_l0 (v0 v1 : Int) (v2 : List Int) : Option (Int × (List Int)) := lpW laws_markUint64S.s laws_markUint64S.c 0 (ud 14 [.sl 0 0, .int .i64 v0, .undef, .undef, .undef, .int .i64 v1]) [.row 0 true 94 v2] 1
theorem laws_markUint64S.eq (x0 : List Int) (x1 : Int) : laws_markUint64S x0 x1 =
    laws_markUint64S_l0 x1 (0 : Int) x0 := by kernel_rfl
theorem laws_markUint64S_l0.eq (v0 v1 : Int) (v2 : List Int) : laws_markUint64S_l0 v0 v1 v2 =
    bif decide (v1 < (v2.length : Int)) then
      (at? v2 v1).bind fun y1 =>
      v2[v1.toNat]?.bind fun y2 =>
      laws_markUint64S_l0 (IntKind.i64.wrap (v0 + (1 : Int))) (IntKind.i64.wrap (v1 + (1 : Int))) (v2.set v1.toNat (IntKind.u64.wrap v0))
    else
      some (v0, v2) := (Lw_eq tysOk (getG_con (laws_markUint64S.gok _)) _ _).trans (by kernel_rfl)

noncomputable abbrev laws_markBits.s : Sg := ⟨[.keep, .lend], [.agg [.int .i64, .sl true true 94], vi], ⟨[vi], [some (.agg [.int .i64, .sl true true 94]), none]⟩, Try.f51⟩
noncomputable def laws_markBits.gs (δ : Type) : List (Nat × Callee (GT tab) δ) := [(96, laws_markUint64S.k)]
theorem laws_markBits.gok (δ : Type) : AllCon Try.prog tab (laws_markBits.gs δ) := .cons laws_markUint64S.con .nil
noncomputable def laws_markBits.c := cx laws_markBits.s [] [] false (laws_markBits.gs _)
noncomputable def laws_markBits (x0 : Int × (List Int)) (x1 : Int) : Option (Int × (Int × (List Int))) := fnW laws_markBits.s laws_markBits.c (x0, x1)
theorem laws_markBits.fok : FkS laws_markBits.s 51 := ⟨Try.func51, by kernel_rfl, by kernel_rfl⟩
noncomputable def laws_markBits.fn (x : Args tab laws_markBits.s.ar) : Option (ResT tab laws_markBits.s.rs) := laws_markBits x.1 x.2
noncomputable abbrev laws_markBits.k {δ : Type} : Callee (GT tab) δ := kS laws_markBits.s laws_markBits.fn
theorem laws_markBits.con {δ : Type} : Con Try.prog (KT tab) 51 (laws_markBits.k (δ := δ)) := con_shape (c := laws_markBits.c) mixed tysOk (getG_con (laws_markBits.gok _)) laws_markBits.fok rfl rfl fun _ => rfl
theorem laws_markBits.eq (x0 : Int × (List Int)) (x1 : Int) : laws_markBits x0 x1 =
    (laws_markUint64S x0.2 x1).bind fun y1 =>
    some (y1.1, (x0.1, y1.2)) := by kernel_rfl

noncomputable abbrev laws_markPacked.s : Sg := ⟨[.keep, .lend], [.agg [.int .i64, .int .i64, .int .i64, .sl true true 94], vi], ⟨[vi], [some (.agg [.int .i64, .int .i64, .int .i64, .sl true true 94]), none]⟩, Try.f50⟩
noncomputable def laws_markPacked.gs (δ : Type) : List (Nat × Callee (GT tab) δ) := [(51, laws_markBits.k)]
theorem laws_markPacked.gok (δ : Type) : AllCon Try.prog tab (laws_markPacked.gs δ) := .cons laws_markBits.con .nil
noncomputable def laws_markPacked.c := cx laws_markPacked.s [] [] false (laws_markPacked.gs _)
noncomputable def laws_markPacked (x0 : Int × Int × Int × (List Int)) (x1 : Int) : Option (Int × (Int × Int × Int × (List Int))) := fnW laws_markPacked.s laws_markPacked.c (x0, x1)
theorem laws_markPacked.fok : FkS laws_markPacked.s 50 := ⟨Try.func50, by kernel_rfl, by kernel_rfl⟩
noncomputable def laws_markPacked.fn (x : Args tab laws_markPacked.s.ar) : Option (ResT tab laws_markPacked.s.rs) := laws_markPacked x.1 x.2
noncomputable abbrev laws_markPacked.k {δ : Type} : Callee (GT tab) δ := kS laws_markPacked.s laws_markPacked.fn
theorem laws_markPacked.con {δ : Type} : Con Try.prog (KT tab) 50 (laws_markPacked.k (δ := δ)) := con_shape (c := laws_markPacked.c) mixed tysOk (getG_con (laws_markPacked.gok _)) laws_markPacked.fok rfl rfl fun _ => rfl
theorem laws_markPacked.eq (x0 : Int × Int × Int × (List Int)) (x1 : Int) : laws_markPacked x0 x1 =
    (laws_markBits x0.2.2 x1).bind fun y1 =>
    some (y1.1, (x0.1, x0.2.1, x0.2.2.1, y1.2.2)) := by kernel_rfl

noncomputable abbrev laws_markSparse.s : Sg := ⟨[.keep, .lend], [.agg [.int .i64, .int .i64, .int .i64, .int .i64, .int .i64, .sl true true 94, .int .i64, .sl true true 94], vi], ⟨[vi], [some (.agg [.int .i64, .int .i64, .int .i64, .int .i64, .int .i64, .sl true true 94, .int .i64, .sl true true 94]), none]⟩, Try.f13⟩
noncomputable def laws_markSparse.gs (δ : Type) : List (Nat × Callee (GT tab) δ) := [(50, laws_markPacked.k), (51, laws_markBits.k)]
theorem laws_markSparse.gok (δ : Type) : AllCon Try.prog tab (laws_markSparse.gs δ) := .cons laws_markPacked.con (.cons laws_markBits.con .nil)
noncomputable def laws_markSparse.c := cx laws_markSparse.s [] [] false (laws_markSparse.gs _)
noncomputable def laws_markSparse (x0 : Int × Int × Int × Int × Int × (List Int) × Int × (List Int)) (x1 : Int) : Option (Int × (Int × Int × Int × Int × Int × (List Int) × Int × (List Int))) := fnW laws_markSparse.s laws_markSparse.c (x0, x1)
theorem laws_markSparse.fok : FkS laws_markSparse.s 13 := ⟨Try.func13, by kernel_rfl, by kernel_rfl⟩
noncomputable def laws_markSparse.fn (x : Args tab laws_markSparse.s.ar) : Option (ResT tab laws_markSparse.s.rs) := laws_markSparse x.1 x.2
noncomputable abbrev laws_markSparse.k {δ : Type} : Callee (GT tab) δ := kS laws_markSparse.s laws_markSparse.fn
theorem laws_markSparse.con {δ : Type} : Con Try.prog (KT tab) 13 (laws_markSparse.k (δ := δ)) := con_shape (c := laws_markSparse.c) mixed tysOk (getG_con (laws_markSparse.gok _)) laws_markSparse.fok rfl rfl fun _ => rfl
theorem laws_markSparse.eq (x0 : Int × Int × Int × Int × Int × (List Int) × Int × (List Int)) (x1 : Int) : laws_markSparse x0 x1 =
    (laws_markPacked (x0.2.2.1, x0.2.2.2.1, x0.2.2.2.2.1, x0.2.2.2.2.2.1) x1).bind fun y1 =>
    (laws_markBits x0.2.2.2.2.2.2 y1.1).bind fun y2 =>
    some (y2.1, (x0.1, x0.2.1, x0.2.2.1, x0.2.2.2.1, x0.2.2.2.2.1, y1.2.2.2.2, x0.2.2.2.2.2.2.1, y2.2.2)) := by kernel_rfl

noncomputable abbrev laws_markIntS.s : Sg := ⟨[.keep, .lend], [vo 3, vi], ⟨[vi], [some (vo 3), none]⟩, Try.f14⟩
noncomputable def laws_markIntS.gs (δ : Type) : List (Nat × Callee (GT tab) δ) := []
theorem laws_markIntS.gok (δ : Type) : AllCon Try.prog tab (laws_markIntS.gs δ) := .nil
noncomputable def laws_markIntS.c := cx laws_markIntS.s [] [(2, [0, 1, 5])] false (laws_markIntS.gs _)
noncomputable def laws_markIntS (x0 : List Int) (x1 : Int) : Option (Int × (List Int)) := fnW laws_markIntS.s laws_markIntS.c (x0, x1)
theorem laws_markIntS.fok : FkS laws_markIntS.s 14 := ⟨Try.func14, by kernel_rfl, by kernel_rfl⟩
noncomputable def laws_markIntS.fn (x : Args tab laws_markIntS.s.ar) : Option (ResT tab laws_markIntS.s.rs) := laws_markIntS x.1 x.2
noncomputable abbrev laws_markIntS.k {δ : Type} : Callee (GT tab) δ := kS laws_markIntS.s laws_markIntS.fn
theorem laws_markIntS.con {δ : Type} : Con Try.prog (KT tab) 14 (laws_markIntS.k (δ := δ)) := con_shape (c := laws_markIntS.c) mixed tysOk (getG_con (laws_markIntS.gok _)) laws_markIntS.fok rfl rfl fun _ => rfl
noncomputable def laws_markIntS_l0 (v0 v1 : Int) (v2 : List Int) : Option (Int × (List Int)) := lpW laws_markIntS.s laws_markIntS.c 0 (ud 13 [.sl 0 0, .int .i64 v0, .undef, .undef, .undef, .int .i64 v1]) [.row 0 true 3 v2] 1
theorem laws_markIntS.eq (x0 : List Int) (x1 : Int) : laws_markIntS x0 x1 =
    laws_markIntS_l0 x1 (0 : Int) x0 := by kernel_rfl
theorem laws_markIntS_l0.eq (v0 v1 : Int) (v2 : List Int) : laws_markIntS_l0 v0 v1 v2 =
    bif decide (v1 < (v2.length : Int)) then
      (at? v2 v1).bind fun y1 =>
      v2[v1.toNat]?.bind fun y2 =>
      laws_markIntS_l0 (IntKind.i64.wrap (v0 + (1 : Int))) (IntKind.i64.wrap (v1 + (1 : Int))) (v2.set v1.toNat v0)
    else
      some (v0, v2) := (Lw_eq tysOk (getG_con (laws_markIntS.gok _)) _ _).trans (by kernel_rfl)

noncomputable abbrev laws_heldIntS.s : Sg := ⟨[.lend, .lend], [vl 3, vi], ⟨[vi], [none, none]⟩, Try.f15⟩
noncomputable def laws_heldIntS.gs (δ : Type) : List (Nat × Callee (GT tab) δ) := []
theorem laws_heldIntS.gok (δ : Type) : AllCon Try.prog tab (laws_heldIntS.gs δ) := .nil
noncomputable def laws_heldIntS.c := cx laws_heldIntS.s [] [(2, [0, 1, 5])] false (laws_heldIntS.gs _)
noncomputable def laws_heldIntS (x0 : List Int) (x1 : Int) : Option (Int) := fnW laws_heldIntS.s laws_heldIntS.c (x0, x1)
theorem laws_heldIntS.fok : FkS laws_heldIntS.s 15 := ⟨Try.func15, by kernel_rfl, by kernel_rfl⟩
noncomputable def laws_heldIntS.fn (x : Args tab laws_heldIntS.s.ar) : Option (ResT tab laws_heldIntS.s.rs) := laws_heldIntS x.1 x.2
noncomputable abbrev laws_heldIntS.k {δ : Type} : Callee (GT tab) δ := kS laws_heldIntS.s laws_heldIntS.fn
theorem laws_heldIntS.con {δ : Type} : Con Try.prog (KT tab) 15 (laws_heldIntS.k (δ := δ)) := con_shape (c := laws_heldIntS.c) mixed tysOk (getG_con (laws_heldIntS.gok _)) laws_heldIntS.fok rfl rfl fun _ => rfl
noncomputable def laws_heldIntS_l0 (v0 : List Int) (v1 v2 : Int) : Option (Int) := lpW laws_heldIntS.s laws_heldIntS.c 0 (ud 15 [.vs false 3 v0, .int .i64 v1, .undef, .undef, .undef, .int .i64 v2]) [] 0
theorem laws_heldIntS.eq (x0 : List Int) (x1 : Int) : laws_heldIntS x0 x1 =
    laws_heldIntS_l0 x0 x1 (0 : Int) := by kernel_rfl
theorem laws_heldIntS_l0.eq (v0 : List Int) (v1 v2 : Int) : laws_heldIntS_l0 v0 v1 v2 =
    bif decide (v2 < (v0.length : Int)) then
      (at? v0 v2).bind fun y1 =>
      bif y1 != v1 then
        some (-1 : Int)
      else
        laws_heldIntS_l0 v0 (IntKind.i64.wrap (v1 + (1 : Int))) (IntKind.i64.wrap (v2 + (1 : Int)))
    else
      some v1 := (Lw_eq tysOk (getG_con (laws_heldIntS.gok _)) _ _).trans (by kernel_rfl)

end Go.Ev.W
